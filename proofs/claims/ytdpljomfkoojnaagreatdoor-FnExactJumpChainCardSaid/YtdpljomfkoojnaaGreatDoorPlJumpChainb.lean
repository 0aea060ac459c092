import Derived.Test.YtdpljomfkoojnaaGreatDoorPlJumpChaina
set_option linter.unusedVariables false
set_option maxRecDepth 100000
noncomputable section
namespace Go.Cm
open IntKind (wrap)
abbrev s_l01NatRead.A:=Int×ByteArray×List Int×Unit
abbrev P.s_l01NatRead_b3 (g2:s_l01NatRead.A->Option (List Int×Unit)) (x4:Int×Int×s_l01NatRead.A) (g5:Int×Int×s_l01NatRead.A->Option (List Int×Unit)):Option (List Int×Unit):=
 (fun(a b c:Int) (d:ByteArray) (e:List Int)=>if decide (a<b)then if decide (0<=a)then if decide (a<(d.size:Int))then g5 (wrap .i64 (a+1),b,wrap .i64 ((wrap .i64 (10*c))+(wrap .i64 (wrap .u8 ((byteAt d a) - 48)))),d,e,())else none else none else if decide (((e.length+(List.length [c]))*8)<=140737488355328)then g2 (wrap .i64 (b - 9),d,e++[c],())else none) x4.1 x4.2.1 x4.2.2.1 x4.2.2.2.1 x4.2.2.2.2.1
abbrev P.s_l01NatRead_b0 (k:Nat) (x1:s_l01NatRead.A) (g2:s_l01NatRead.A->Option (List Int×Unit)):Option (List Int×Unit):=
 if decide (x1.1>0)then if decide (x1.1>9)then loopP (P.s_l01NatRead_b3 g2) k (wrap .i64 (x1.1 - 9),x1.1,0,x1.2.1,x1.2.2.1,())else loopP (P.s_l01NatRead_b3 g2) k (0,x1.1,0,x1.2.1,x1.2.2.1,())else(S.s_l01Trim (x1.2.2.1,())).bind fun y9=>some (y9.1,())
def P.s_l01NatRead (k:Nat) (x:ByteArray×Unit):Option (List Int×Unit):=
 loopP (P.s_l01NatRead_b0 k) k ((x.1.size:Int),x.1,[],())
theorem sr_inner (g) (s:ByteArray) (l:List UInt8) (hL:s.data.toList=l) (hd:allD l=true) (a n:Nat) (hn:n<=9) (han:a+n<=l.length) (hl:l.length<=1000000000) (out:List Int) (ho:out.length<=1000000000) (k:Nat) (hk:n<k):
  loopP (P.s_l01NatRead_b3 g) k ((a:Int),(((a+n:Nat):Int),((0:Int),(s,(out,())))))=g (((a+n:Nat):Int) - 9,(s,(out++[((dv ((l.drop a).take n):Nat):Int)],()))):=by
 have hs:s.size=l.length:=by rw[<-hL,Array.length_toList];rfl
 have key:=loop_up0 (k:=k) (b:=P.s_l01NatRead_b3 g) (n:=n) (st:=fun i=>(((a+i:Nat):Int),((a+n:Nat):Int),((dv ((l.drop a).take i):Nat):Int),s,out,())) (F:=fun i=>g (((a+n:Nat):Int) - 9,(s,(out++[((dv ((l.drop a).take n):Nat):Int)],())))) (fun i g' hi hg'=>by
  unfold P.s_l01NatRead_b3;dsimp only at hg' ⊢;refine Eq.trans ?_ hg';have hi2:i<(l.drop a).length:=by rw[List.length_drop];omega
  have e1:((a+i:Nat):Int)<((a+n:Nat):Int):=by omega
  have e2:(0:Int)<=((a+i:Nat):Int):=by omega
  have e3:((a+i:Nat):Int)<(l.length:Int):=by omega
  have hb:byteAt s ((a+i:Nat):Int)=(((l.drop a)[i]).toNat:Int):=by
   unfold byteAt;rw[hL,getD_cast l (a+i) _ (by omega),List.getElem_drop]
  have hc:=allD_get (allD_drop hd a) hi2;have hv:=dv_lt (allD_take (allD_drop hd a) i);have hp:10^((l.drop a).take i).length<=10^9:=Nat.pow_le_pow_right (by decide) (by simp;omega);have hp9:(10:Nat)^9=1000000000:=by decide
  rw[hs,hb,wr (x:=((a+i:Nat):Int)+1) (by omega) (by omega)];simp only[e1,e2,e3,decide_true,if_true];rw[<-List.take_append_getElem hi2,dv_snoc];generalize (l.drop a)[i].toNat=c at*;generalize dv ((l.drop a).take i)=v at*;have h8:IntKind.wrap .u8 ((c:Int) - 48)=(c:Int) - 48:=IntWalk.u8_in _ (by omega);rw[h8,wr (x:=(c:Int) - 48) (by omega) (by omega),wr (x:=10*(v:Int)) (by omega) (by omega),wr (x:=10*(v:Int)+((c:Int) - 48)) (by omega) (by omega),show 10*(v:Int)+((c:Int) - 48)=((10*v+(c - 48):Nat):Int) by omega];rfl) (fun g'=>by
  unfold P.s_l01NatRead_b3;dsimp only;have hcap:(out.length+ [((dv ((l.drop a).take n):Nat):Int)].length)*8<=140737488355328:=by
   rw[List.length_singleton];omega
  rw[if_neg (by simp),if_pos (decide_eq_true hcap),wr (by omega) (by omega)]) hk
 exact key
theorem sr_outer (s:ByteArray) (l:List UInt8) (hL:s.data.toList=l) (hd:allD l=true) (hl:l.length<=1000000000) (K:Nat) (hK:9<K) (n:Nat):∀(to:Int) (out:List Int) (k:Nat),to<=(n:Int)-> -9<=to->to<=(l.length:Int)->n<k->dig B10 out=true->out.length+n<=l.length->dval B10 out+B10^out.length*dv (l.take to.toNat)=dv l->
  loopP (P.s_l01NatRead_b0 K) k (to,(s,(out,())))=some (nd B10 (dv l),()):=by
 induction n using Nat.strongRecOn with
 |ind n ih=>
  intro to out k hto hlo htl hk hdo hol hv;obtain⟨k,rfl⟩:∃j,k=j+1:=⟨k - 1,by omega⟩
  rw[loopP_succ];unfold P.s_l01NatRead_b0;dsimp only
  by_cases h0:to>0
  ·rw[if_pos (decide_eq_true h0)];obtain⟨m,rfl⟩:∃m:Nat,to=(m:Int):=⟨to.toNat,by omega⟩
   rw[Int.toNat_natCast]at hv;have hB9:B10=10^9:=by decide
   have hstep:∀a c:Nat,c<=9->a+c=m->(c=9\/a=0)->loopP (P.s_l01NatRead_b3 (loopP (P.s_l01NatRead_b0 K) k)) K ((a:Int),((m:Int),((0:Int),(s,(out,())))))=some (nd B10 (dv l),()):=by
    intro a c hc9 hm hor;have hin:=sr_inner (loopP (P.s_l01NatRead_b0 K) k) s l hL hd a c hc9 (by omega) hl out (by omega) K (by omega);rw[hm]at hin;rw[hin];have htk:l.take m=l.take a++(l.drop a).take c:=by rw[<-hm,List.take_add]
    have hpc:((l.drop a).take c).length=c:=by simp;omega
    have hpd:=dv_lt (allD_take (allD_drop hd a) c);rw[hpc]at hpd;have hp9:10^c<=10^9:=Nat.pow_le_pow_right (by decide) hc9;have hpB:dv ((l.drop a).take c)<B10:=by rw[hB9];omega
    have hta:l.take ((m:Int) - 9).toNat=l.take a:=by
     rcases hor with g|g
     ·rw[show((m:Int) - 9).toNat=a by omega]
     ·subst g;rw[show((m:Int) - 9).toNat=0 by omega]
    refine ih (n - 1) (by omega) _ _ k (by omega) (by omega) (by omega) (by omega) ?_ (by rw[List.length_append,List.length_singleton];omega) ?_
    ·rw[dig_append,hdo,Bool.true_and,dig_cons];exact⟨⟨by omega,by omega⟩,rfl⟩
    ·rw[hta,dval_append,List.length_append,List.length_singleton,Nat.pow_succ,<-hv,htk,dv_append,hpc];have e1:dval B10 [((dv ((l.drop a).take c):Nat):Int)]=dv ((l.drop a).take c):=by rw[dval,Int.toNat_natCast];rfl
     rw[e1];rcases hor with g|g
     ·rw[g,<-hB9,Nat.mul_assoc,Nat.mul_add,Nat.mul_comm B10];omega
     ·subst g;have:dv (l.take 0)=0:=by rw[List.take_zero];rfl
      rw[this,Nat.mul_zero,Nat.zero_mul,Nat.zero_add];omega
   by_cases h9:(m:Int)>9
   ·rw[if_pos (decide_eq_true h9),wr (by omega) (by omega),show(m:Int) - 9=((m - 9:Nat):Int) by omega];exact hstep (m - 9) 9 (Nat.le_refl _) (by omega) (.inl rfl)
   ·rw[if_neg (by simpa using h9)];exact hstep 0 m (by omega) (by omega) (.inr rfl)
  ·rw[if_neg (by simpa using h0)];have h00:to.toNat=0:=by omega
   rw[h00,List.take_zero,show dv []=0 from rfl,Nat.mul_zero,Nat.add_zero]at hv;unfold S.s_l01Trim;dsimp only;rw[if_pos ⟨hdo,by omega⟩,Option.bind_some,hv]
def S.s_l01NatRead (x:(ByteArray×Unit)):(Option ((List Int)×Unit)):=if allD x.1.data.toList=true/\x.1.data.toList.length<=1000000000 then some (nd B10 (dv x.1.data.toList),())else none
theorem S.s_l01NatRead_ok (x r) (h:S.s_l01NatRead x=some r):∃k,P.s_l01NatRead k x=some r:=by
 obtain⟨s,u⟩:=x;unfold S.s_l01NatRead at h;dsimp only at h;split at h
 case isFalse=>cases h
 rename_i hc;obtain⟨hd,hl⟩:=hc;cases h;have hs:s.size=s.data.toList.length:=by rw[Array.length_toList];rfl
 refine⟨s.data.toList.length+10,?_⟩;unfold P.s_l01NatRead;dsimp only;rw[hs];exact sr_outer s _ rfl hd hl _ (by omega) s.data.toList.length _ [] _ (Int.le_refl _) (by omega) (Int.le_refl _) (by omega) rfl (by simp) (by rw[Int.toNat_natCast,List.take_length];simp [dval])
abbrev P.s_l01Digits_b0 (x1:Int×ByteArray×Unit) (g2:Int×ByteArray×Unit->Option (Bool×Unit)):Option (Bool×Unit):=
 (fun(a:Int) (b:ByteArray)=>if decide (a<(b.size:Int))then if decide (0<=a)then if decide (a<(b.size:Int))then if decide ((byteAt b a)<48)then some (false,())else if decide (0<=a)then if decide (a<(b.size:Int))then if decide ((byteAt b a)>57)then some (false,())else g2 (wrap .i64 (a+1),b,())else none else none else none else none else if decide ((b.size:Int)>=1)then if decide ((b.size:Int)<=200)then if(b.size:Int)==1 then some (true,())else if decide (0<(b.size:Int))then some ((byteAt b 0) != 48,())else none else some (false,())else some (false,())) x1.1 x1.2.1
def P.s_l01Digits (k:Nat) (x:ByteArray×Unit):Option (Bool×Unit):=
 loopP P.s_l01Digits_b0 k (0,x.1,())
def S.s_l01Digits (x:(ByteArray×Unit)):(Option (Bool×Unit)):=if x.1.size<=281474976710656 then some (okN x.1.data.toList,())else none
theorem S.s_l01Digits_ok (x r) (h:S.s_l01Digits x=some r):∃k,P.s_l01Digits k x=some r:=by
 obtain⟨s,u⟩:=x;unfold S.s_l01Digits at h;dsimp only at h;split at h
 case isFalse=>cases h
 rename_i hsz;cases h;have hs:s.size=s.data.toList.length:=by rw[Array.length_toList];rfl
 rw[hs]at hsz;refine⟨s.data.toList.length+1,?_⟩;unfold P.s_l01Digits;dsimp only;generalize hL:s.data.toList=l at*;have key:=loop_up0 (k:=l.length+1) (b:=P.s_l01Digits_b0) (n:=l.length) (st:=fun i=>((i:Int),s,())) (F:=fun i=>some (allD (l.drop i)&&okR l,())) (fun i g hi hg=>by
  unfold P.s_l01Digits_b0;dsimp only at hg ⊢;have e1:(i:Int)<(l.length:Int):=by omega
  have e2:(0:Int)<=(i:Int):=by omega
  have hb:byteAt s (i:Int)=(l[i].toNat:Int):=by
   unfold byteAt;rw[hL,getD_cast l i _ hi]
  have ha:allD (l.drop i)=(isD l[i]&&allD (l.drop (i+1))):=by
   rw[List.drop_eq_getElem_cons hi];rfl
  rw[hs,hb,wr (x:=(i:Int)+1) (by omega) (by omega),ha];simp only[e1,e2,decide_true,if_true];unfold isD
  by_cases c1:48<=l[i].toNat
  ·rw[if_neg (by simp;omega)]
   by_cases c2:l[i].toNat<=57
   ·rw[if_neg (by simp;omega),decide_eq_true ⟨c1,c2⟩,Bool.true_and];exact hg
   ·rw[if_pos (decide_eq_true (by omega)),decide_eq_false (fun q=>c2 q.2)];rfl
  ·rw[if_pos (decide_eq_true (by omega)),decide_eq_false (fun q=>c1 q.1)];rfl) (fun g=>by
  unfold P.s_l01Digits_b0;dsimp only;rw[hs,if_neg (by simp),List.drop_length,show allD []=true from rfl,Bool.true_and];unfold okR
  by_cases h1:l=[]
  ·subst h1;rfl
  ·have hpos:0<l.length:=List.length_pos_iff.2 h1;have d1:(l.length:Int)>=1:=by omega
   rw[if_pos (decide_eq_true d1),decide_eq_true h1,Bool.true_and]
   by_cases h2:l.length<=200
   ·have d2:(l.length:Int)<=200:=by omega
    rw[if_pos (decide_eq_true d2),decide_eq_true h2,Bool.true_and]
    by_cases h3:l.length=1
    ·have d3:(((l.length:Nat):Int)==(1:Int))=true:=by simp [h3]
     rw[if_pos d3,decide_eq_true h3,Bool.true_or]
    ·have d3:¬(((l.length:Nat):Int)==(1:Int))=true:=by simp;omega
     have d4:(0:Int)<(l.length:Int):=by omega
     rw[if_neg d3,if_pos (decide_eq_true d4),decide_eq_false h3,Bool.false_or];have hb:byteAt s 0=(l[0].toNat:Int):=by
      unfold byteAt;rw[hL];simp [hpos]
     have hh:l.head? =some l[0]:=by
      cases l with
      |nil=>simp at h1
      |cons c r=>rfl
     rw[hb,hh]
     by_cases c1:l[0]=48
     ·rw[c1];rfl
     ·have:¬((l[0].toNat:Int)=48):=by
       intro q;apply c1;apply UInt8.toNat_inj.1;show _=48;omega
      rw[decide_eq_true (by simpa using c1)];simpa [bne]using this
   ·have d2:¬(l.length:Int)<=200:=by omega
    rw[if_neg (by simpa using d2),decide_eq_false h2,Bool.false_and]) (by omega)
 rw[List.drop_zero]at key;exact key
def P.s_l01Parse (k:Nat) (x:ByteArray×Unit):Option ((RB×Bool)×Unit):=
 if decide ((x.1.size:Int)>0)then if decide (0<(x.1.size:Int))then if(byteAt x.1 0)==45 then if decide (0<=(x.1.size:Int))then if decide ((x.1.size:Int)<=(x.1.size:Int))then if decide (1<=(x.1.size:Int))then(S.s_l01Cut (ByteArray.extract x.1 1 (Int.toNat (x.1.size:Int)),47,())).bind fun y0=>if decide ((y0.1.length:Int)>2)then some (((false,[],[]),false),())else if decide (0<(y0.1.length:Int))then(S.s_l01Digits (y0.1.getD 0 (bs []),())).bind fun y1=>if !y1.1 then some (((false,[],[]),false),())else if decide (0<(y0.1.length:Int))then(S.s_l01NatRead (y0.1.getD 0 (bs []),())).bind fun y2=>if(byteAt x.1 0)==45 then if(y2.1.length:Int)==0 then some (((false,[],[]),false),())else if(y0.1.length:Int)==1 then some ((((byteAt x.1 0)==45,y2.1,[1]),true),())else if decide (1<(y0.1.length:Int))then(S.s_l01Digits (y0.1.getD 1 (bs []),())).bind fun y3=>if !y3.1 then some (((false,[],[]),false),())else if decide (1<(y0.1.length:Int))then(S.s_l01NatRead (y0.1.getD 1 (bs []),())).bind fun y4=>(S.s_l01Cmp (y4.1,[1],())).bind fun y5=>if decide (y5.1<=0)then some (((false,[],[]),false),())else(S.s_l01Gcd (y2.1,y4.1,())).bind fun y6=>(S.s_l01Cmp (y6.1,[1],())).bind fun y7=>if y7.1 != 0 then some (((false,[],[]),false),())else some ((((byteAt x.1 0)==45,y2.1,y4.1),true),())else none else none else if(y0.1.length:Int)==1 then some ((((byteAt x.1 0)==45,y2.1,[1]),true),())else if decide (1<(y0.1.length:Int))then(S.s_l01Digits (y0.1.getD 1 (bs []),())).bind fun y8=>if !y8.1 then some (((false,[],[]),false),())else if decide (1<(y0.1.length:Int))then(S.s_l01NatRead (y0.1.getD 1 (bs []),())).bind fun y9=>(S.s_l01Cmp (y9.1,[1],())).bind fun y10=>if decide (y10.1<=0)then some (((false,[],[]),false),())else(S.s_l01Gcd (y2.1,y9.1,())).bind fun y11=>(S.s_l01Cmp (y11.1,[1],())).bind fun y12=>if y12.1 != 0 then some (((false,[],[]),false),())else some ((((byteAt x.1 0)==45,y2.1,y9.1),true),())else none else none else none else none else none else none else none else(S.s_l01Cut (x.1,47,())).bind fun y13=>if decide ((y13.1.length:Int)>2)then some (((false,[],[]),false),())else if decide (0<(y13.1.length:Int))then(S.s_l01Digits (y13.1.getD 0 (bs []),())).bind fun y14=>if !y14.1 then some (((false,[],[]),false),())else if decide (0<(y13.1.length:Int))then(S.s_l01NatRead (y13.1.getD 0 (bs []),())).bind fun y15=>if(byteAt x.1 0)==45 then if(y15.1.length:Int)==0 then some (((false,[],[]),false),())else if(y13.1.length:Int)==1 then some ((((byteAt x.1 0)==45,y15.1,[1]),true),())else if decide (1<(y13.1.length:Int))then(S.s_l01Digits (y13.1.getD 1 (bs []),())).bind fun y16=>if !y16.1 then some (((false,[],[]),false),())else if decide (1<(y13.1.length:Int))then(S.s_l01NatRead (y13.1.getD 1 (bs []),())).bind fun y17=>(S.s_l01Cmp (y17.1,[1],())).bind fun y18=>if decide (y18.1<=0)then some (((false,[],[]),false),())else(S.s_l01Gcd (y15.1,y17.1,())).bind fun y19=>(S.s_l01Cmp (y19.1,[1],())).bind fun y20=>if y20.1 != 0 then some (((false,[],[]),false),())else some ((((byteAt x.1 0)==45,y15.1,y17.1),true),())else none else none else if(y13.1.length:Int)==1 then some ((((byteAt x.1 0)==45,y15.1,[1]),true),())else if decide (1<(y13.1.length:Int))then(S.s_l01Digits (y13.1.getD 1 (bs []),())).bind fun y21=>if !y21.1 then some (((false,[],[]),false),())else if decide (1<(y13.1.length:Int))then(S.s_l01NatRead (y13.1.getD 1 (bs []),())).bind fun y22=>(S.s_l01Cmp (y22.1,[1],())).bind fun y23=>if decide (y23.1<=0)then some (((false,[],[]),false),())else(S.s_l01Gcd (y15.1,y22.1,())).bind fun y24=>(S.s_l01Cmp (y24.1,[1],())).bind fun y25=>if y25.1 != 0 then some (((false,[],[]),false),())else some ((((byteAt x.1 0)==45,y15.1,y22.1),true),())else none else none else none else none else none else(S.s_l01Cut (x.1,47,())).bind fun y26=>if decide ((y26.1.length:Int)>2)then some (((false,[],[]),false),())else if decide (0<(y26.1.length:Int))then(S.s_l01Digits (y26.1.getD 0 (bs []),())).bind fun y27=>if !y27.1 then some (((false,[],[]),false),())else if decide (0<(y26.1.length:Int))then(S.s_l01NatRead (y26.1.getD 0 (bs []),())).bind fun y28=>if(y26.1.length:Int)==1 then some (((false,y28.1,[1]),true),())else if decide (1<(y26.1.length:Int))then(S.s_l01Digits (y26.1.getD 1 (bs []),())).bind fun y29=>if !y29.1 then some (((false,[],[]),false),())else if decide (1<(y26.1.length:Int))then(S.s_l01NatRead (y26.1.getD 1 (bs []),())).bind fun y30=>(S.s_l01Cmp (y30.1,[1],())).bind fun y31=>if decide (y31.1<=0)then some (((false,[],[]),false),())else(S.s_l01Gcd (y28.1,y30.1,())).bind fun y32=>(S.s_l01Cmp (y32.1,[1],())).bind fun y33=>if y33.1 != 0 then some (((false,[],[]),false),())else some (((false,y28.1,y30.1),true),())else none else none else none else none
theorem pp_sign (T:ByteArray) (n:Bool) (hsz:T.size<=1000000):
  (Option.bind (S.s_l01Cut (T,((47:Int),()))) (fun(z0:((List ByteArray)×Unit))=>(if((decide (((List.length z0.1):Int)>(2:Int)))=true)then(some (((false,(([]:List Int),([]:List Int))),false),()))
 else(if((decide ((0:Int)<((List.length z0.1):Int)))=true)then(Option.bind (S.s_l01Digits ((List.getD z0.1 (0:Nat) (Go.Cm.bs [])),())) (fun(z1:(Bool×Unit))=>(if((!z1.1)=true)then(some (((false,(([]:List Int),([]:List Int))),false),()))
 else(if((decide ((0:Int)<((List.length z0.1):Int)))=true)then(Option.bind (S.s_l01NatRead ((List.getD z0.1 (0:Nat) (Go.Cm.bs [])),())) (fun(z2:((List Int)×Unit))=>(if(n=true)then(if((((List.length z2.1):Int)==(0:Int))=true)then(some (((false,(([]:List Int),([]:List Int))),false),()))
 else(if((((List.length z0.1):Int)==(1:Int))=true)then(some (((n,(z2.1,((1:Int)::([]:List Int)))),true),()))
 else(if((decide ((1:Int)<((List.length z0.1):Int)))=true)then(Option.bind (S.s_l01Digits ((List.getD z0.1 (1:Nat) (Go.Cm.bs [])),())) (fun(z3:(Bool×Unit))=>(if((!z3.1)=true)then(some (((false,(([]:List Int),([]:List Int))),false),()))
 else(if((decide ((1:Int)<((List.length z0.1):Int)))=true)then(Option.bind (S.s_l01NatRead ((List.getD z0.1 (1:Nat) (Go.Cm.bs [])),())) (fun(z4:((List Int)×Unit))=>(Option.bind (S.s_l01Cmp (z4.1,(((1:Int)::([]:List Int)),()))) (fun(z5:(Int×Unit))=>(if((decide (z5.1<=(0:Int)))=true)then(some (((false,(([]:List Int),([]:List Int))),false),()))
 else(Option.bind (S.s_l01Gcd (z2.1,(z4.1,()))) (fun(z6:((List Int)×Unit))=>(Option.bind (S.s_l01Cmp (z6.1,(((1:Int)::([]:List Int)),()))) (fun(z7:(Int×Unit))=>(if((z7.1 != (0:Int))=true)then(some (((false,(([]:List Int),([]:List Int))),false),()))
 else(some (((n,(z2.1,z4.1)),true),()))))))))))))
 else none))))
 else none)))
 else(if((((List.length z0.1):Int)==(1:Int))=true)then(some (((n,(z2.1,((1:Int)::([]:List Int)))),true),()))
 else(if((decide ((1:Int)<((List.length z0.1):Int)))=true)then(Option.bind (S.s_l01Digits ((List.getD z0.1 (1:Nat) (Go.Cm.bs [])),())) (fun(z8:(Bool×Unit))=>(if((!z8.1)=true)then(some (((false,(([]:List Int),([]:List Int))),false),()))
 else(if((decide ((1:Int)<((List.length z0.1):Int)))=true)then(Option.bind (S.s_l01NatRead ((List.getD z0.1 (1:Nat) (Go.Cm.bs [])),())) (fun(z9:((List Int)×Unit))=>(Option.bind (S.s_l01Cmp (z9.1,(((1:Int)::([]:List Int)),()))) (fun(z10:(Int×Unit))=>(if((decide (z10.1<=(0:Int)))=true)then(some (((false,(([]:List Int),([]:List Int))),false),()))
 else(Option.bind (S.s_l01Gcd (z2.1,(z9.1,()))) (fun(z11:((List Int)×Unit))=>(Option.bind (S.s_l01Cmp (z11.1,(((1:Int)::([]:List Int)),()))) (fun(z12:(Int×Unit))=>(if((z12.1 != (0:Int))=true)then(some (((false,(([]:List Int),([]:List Int))),false),()))
 else(some (((n,(z2.1,z9.1)),true),()))))))))))))
 else none))))
 else none)))))
 else none))))
 else none))))=some ((rp B10 (rdBody n (cutP 47 T.data.toList)).1,(rdBody n (cutP 47 T.data.toList)).2),()):=by
 have hbad:((false,(([]:List Int),([]:List Int))),false)=(rp B10 noQ.1,noQ.2):=by
  unfold noQ rp;dsimp only;rw[nd_zero B10_le]
 have hcut:S.s_l01Cut (T,(47,()))=some ((cutUp T 47 (T.size+1)).1,()):=by
  unfold S.s_l01Cut;exact if_pos hsz
 have hp:(cutUp T 47 (T.size+1)).1.map (·.data.toList)=pieces 47 T.data.toList:=cutUp_pieces T 47;have hlen:∀A∈(cutUp T 47 (T.size+1)).1,A.data.toList.length<=1000000:=by
  intro A hA;have h1:=pieces_len 47 T.data.toList A.data.toList (by rw[<-hp];exact List.mem_map_of_mem hA);have h2:T.size=T.data.toList.length:=by rw[Array.length_toList];rfl
  omega
 rw[hcut,Option.bind_some,hbad];generalize (cutUp T 47 (T.size+1)).1=ps at*;rw[pieces_cutP]at hp;generalize hc:cutP 47 T.data.toList=c at*;have hDig:∀A∈ps,S.s_l01Digits (A,())=some (okN A.data.toList,()):=by
  intro A hA;have h1:=hlen A hA;have h2:A.size=A.data.toList.length:=by rw[Array.length_toList];rfl
  unfold S.s_l01Digits;exact if_pos (by dsimp only;omega)
 have hRead:∀A∈ps,okN A.data.toList=true->S.s_l01NatRead (A,())=some (nd B10 (dv A.data.toList),()):=by
  intro A hA hok;have h1:=okN_allD hok;unfold S.s_l01NatRead;exact if_pos ⟨h1.1,by dsimp only;omega⟩
 have hz:∀m:Nat,(((nd B10 m).length:Int)==0)=decide (m=0):=by
  intro m;have:=canon_nil B10_le (canon_nd B10_le m);rw[dval_nd B10_le]at this
  by_cases h0:m=0
  ·rw[this.2 h0,h0];rfl
  ·have hne:=fun q=>h0 (this.1 q)
   rw[decide_eq_false h0];simpa using hne
 have hone:([1]:List Int)=nd B10 1:=(nd_one B10_le).symm;unfold rdBody;cases hf:c.2.2
 ·
  rw[hf,if_neg (by decide)]at hp;obtain⟨A,rfl,hA⟩:∃A,ps=[A]/\A.data.toList=c.1:=by
   exact List.map_eq_singleton_iff.1 hp
  have hd:=hDig A (by simp);have hr:=hRead A (by simp);rw[hA]at hd hr;have l1:¬(((List.length [A]:Nat):Int)>2):=by simp
  have l2:(0:Int)<((List.length [A]:Nat):Int):=by simp
  have l3:(((List.length [A]:Nat):Int)==1)=true:=rfl;simp only[l1,l2,l3,decide_true,decide_false,if_true,if_false,Bool.false_eq_true,List.getD_cons_zero];rw[hd,Option.bind_some];dsimp only;cases hok:okN c.1
  ·rw[if_pos (show(!false)=true by rfl),if_neg (fun q=>by cases q.1)]
  ·rw[if_neg (show ¬((!true)=true) by decide),hr hok,Option.bind_some];dsimp only;rw[hz];cases n
   ·rw[if_neg (show ¬((false:Bool)=true) by decide),if_pos ⟨rfl,fun q=>by cases q.1⟩,hone];rfl
   ·rw[if_pos rfl]
    by_cases h0:dv c.1=0
    ·rw[if_pos (decide_eq_true h0),if_neg (fun q=>q.2 ⟨rfl,h0⟩)]
    ·rw[if_neg (by simpa using h0),if_pos ⟨rfl,fun q=>h0 q.2⟩,hone];rfl
 ·rw[hf,if_pos rfl,pieces_cutP]at hp;cases hf2:(cutP 47 c.2.1).2.2
  ·rw[hf2,if_neg (by decide)]at hp;have hy:(cutP 47 c.2.1).1=c.2.1:=((cutP_index 47 c.2.1).1 hf2).2.1;rw[hy]at hp;obtain⟨A,B,rfl,hA,hB⟩:∃A B,ps=[A,B]/\A.data.toList=c.1/\B.data.toList=c.2.1:=by
    obtain⟨A,q,rfl,hA,hq⟩:=List.map_eq_cons_iff.1 hp;obtain⟨B,rfl,hB⟩:=List.map_eq_singleton_iff.1 hq;exact⟨A,B,rfl,hA,hB⟩
   have hd:=hDig A (by simp);have hr:=hRead A (by simp);have hd2:=hDig B (by simp);have hr2:=hRead B (by simp);rw[hA]at hd hr;rw[hB]at hd2 hr2;have l1:¬(((List.length [A,B]:Nat):Int)>2):=by simp
   have l2:(0:Int)<((List.length [A,B]:Nat):Int):=by simp
   have l3:(((List.length [A,B]:Nat):Int)==1)=false:=rfl;have l4:(1:Int)<((List.length [A,B]:Nat):Int):=by simp
   simp only[l1,l2,l3,l4,decide_true,decide_false,if_true,if_false,Bool.false_eq_true,List.getD_cons_zero,List.getD_cons_succ];rw[hd,Option.bind_some];dsimp only;cases hok:okN c.1
   ·rw[if_pos (show(!false)=true by rfl),if_neg (fun q=>by cases q.1)]
   ·rw[if_neg (show ¬((!true)=true) by decide),hr hok,Option.bind_some];dsimp only;have la:=nd_len200 (B:=B10) (by decide) (okN_lt hok);have hrest:∀(m:Bool),¬(m=true/\dv c.1=0)->(Option.bind (S.s_l01Digits (B,())) (fun(w0:(Bool×Unit))=>(if((!w0.1)=true)then(some ((rp B10 noQ.1,noQ.2),()))
 else(Option.bind (S.s_l01NatRead (B,())) (fun(w1:((List Int)×Unit))=>(Option.bind (S.s_l01Cmp (w1.1,(((1:Int)::([]:List Int)),()))) (fun(w2:(Int×Unit))=>(if((decide (w2.1<=(0:Int)))=true)then(some ((rp B10 noQ.1,noQ.2),()))
 else(Option.bind (S.s_l01Gcd (nd B10 (dv c.1),(w1.1,()))) (fun(w3:((List Int)×Unit))=>(Option.bind (S.s_l01Cmp (w3.1,(((1:Int)::([]:List Int)),()))) (fun(w4:(Int×Unit))=>(if((w4.1 != (0:Int))=true)then(some ((rp B10 noQ.1,noQ.2),()))
 else(some (((m,(nd B10 (dv c.1),w1.1)),true),())))))))))))))))=some ((rp B10 (if okN c.2.1=true/\1<dv c.2.1/\Nat.gcd (dv c.1) (dv c.2.1)=1 then((m,(dv c.1,dv c.2.1)),true)else noQ).1,(if okN c.2.1=true/\1<dv c.2.1/\Nat.gcd (dv c.1) (dv c.2.1)=1 then((m,(dv c.1,dv c.2.1)),true)else noQ).2),()):=by
     intro m hm;rw[hd2,Option.bind_some];dsimp only;cases hb:okN c.2.1
     ·have hx:¬((false:Bool)=true/\1<dv c.2.1/\Nat.gcd (dv c.1) (dv c.2.1)=1):=fun q=>by cases q.1
      rw[if_pos (show(!false)=true by rfl),if_neg hx]
     ·have lb:=nd_len200 (B:=B10) (by decide) (okN_lt hb);rw[if_neg (show ¬((!true)=true) by decide),hr2 hb,Option.bind_some];dsimp only;have e1:S.s_l01Cmp (nd B10 (dv c.2.1),([1],()))=some (cmpN (dv c.2.1) 1,()):=by
       unfold S.s_l01Cmp;dsimp only;rw[if_pos ⟨canon_nd B10_le _,canon_one B10_le,by omega⟩,dval_nd B10_le,dval_one]
      have e2:S.s_l01Gcd (nd B10 (dv c.1),(nd B10 (dv c.2.1),()))=some (nd B10 (Nat.gcd (dv c.1) (dv c.2.1)),()):=by
       unfold S.s_l01Gcd;dsimp only;rw[if_pos ⟨canon_nd B10_le _,canon_nd B10_le _,by omega,by omega⟩,dval_nd B10_le,dval_nd B10_le]
      rw[e1,Option.bind_some];dsimp only
      by_cases h1:1<dv c.2.1
      ·have hcm:¬(cmpN (dv c.2.1) 1<=0):=by
        have:=(cmpN_gt (a:=dv c.2.1) (b:=1)).2 h1;omega
       have lg:(nd B10 (Nat.gcd (dv c.1) (dv c.2.1))).length<=200:=Nat.le_trans (nd_shorter' B10_le (Nat.le_of_dvd (by omega) (Nat.gcd_dvd_right _ _))) lb;have e3:S.s_l01Cmp (nd B10 (Nat.gcd (dv c.1) (dv c.2.1)),([1],()))=some (cmpN (Nat.gcd (dv c.1) (dv c.2.1)) 1,()):=by
        unfold S.s_l01Cmp;dsimp only;rw[if_pos ⟨canon_nd B10_le _,canon_one B10_le,by omega⟩,dval_nd B10_le,dval_one]
       rw[if_neg (by simpa using hcm),e2,Option.bind_some];dsimp only;rw[e3,Option.bind_some];dsimp only
       by_cases hg:Nat.gcd (dv c.1) (dv c.2.1)=1
       ·rw[if_neg (by simpa using cmpN_zero.2 hg),if_pos ⟨rfl,h1,hg⟩];rfl
       ·rw[if_pos (by simpa using fun q=>hg (cmpN_zero.1 q)),if_neg (fun q=>hg q.2.2)]
      ·have hcm:cmpN (dv c.2.1) 1<=0:=by
        have h2:¬(cmpN (dv c.2.1) 1>0):=fun q=>h1 ((cmpN_gt (a:=dv c.2.1) (b:=1)).1 q)
        omega
       rw[if_pos (decide_eq_true hcm),if_neg (fun q=>h1 q.2.1)]
    rw[hz];cases n
    ·have hm:¬((false:Bool)=true/\dv c.1=0):=fun q=>by cases q.1
     rw[if_neg (show ¬((false:Bool)=true) by decide),if_pos ⟨rfl,hm⟩];exact hrest false hm
    ·rw[if_pos rfl]
     by_cases h0:dv c.1=0
     ·rw[if_pos (decide_eq_true h0),if_neg (fun q=>q.2 ⟨rfl,h0⟩)]
     ·have hm:¬((true:Bool)=true/\dv c.1=0):=fun q=>h0 q.2
      rw[if_neg (by simpa using h0),if_pos ⟨rfl,hm⟩];exact hrest true hm
  ·
   rw[hf2,if_pos rfl]at hp;have hl:ps.length=2+(pieces 47 (cutP 47 c.2.1).2.1).length:=by
    have:=congrArg List.length hp;simp at this;omega
   have hl2:(pieces 47 (cutP 47 c.2.1).2.1).length≠0:=fun q=>pieces_ne 47 _ (List.eq_nil_of_length_eq_zero q)
   have l1:((ps.length:Nat):Int)>2:=by omega
   have hx:¬(okN c.2.1=true/\1<dv c.2.1/\Nat.gcd (dv c.1) (dv c.2.1)=1):=fun q=>by
    have:=cutP_allD (okN_allD q.1).1;rw[hf2]at this;cases this
   rw[if_pos (decide_eq_true l1),if_pos rfl,if_neg hx];split<;>rfl
theorem pp_plain (T:ByteArray) (hsz:T.size<=1000000):
  (Option.bind (S.s_l01Cut (T,((47:Int),()))) (fun(z0:((List ByteArray)×Unit))=>(if((decide (((List.length z0.1):Int)>(2:Int)))=true)then(some (((false,(([]:List Int),([]:List Int))),false),()))
 else(if((decide ((0:Int)<((List.length z0.1):Int)))=true)then(Option.bind (S.s_l01Digits ((List.getD z0.1 (0:Nat) (Go.Cm.bs [])),())) (fun(z1:(Bool×Unit))=>(if((!z1.1)=true)then(some (((false,(([]:List Int),([]:List Int))),false),()))
 else(if((decide ((0:Int)<((List.length z0.1):Int)))=true)then(Option.bind (S.s_l01NatRead ((List.getD z0.1 (0:Nat) (Go.Cm.bs [])),())) (fun(z2:((List Int)×Unit))=>(if((((List.length z0.1):Int)==(1:Int))=true)then(some (((false,(z2.1,((1:Int)::([]:List Int)))),true),()))
 else(if((decide ((1:Int)<((List.length z0.1):Int)))=true)then(Option.bind (S.s_l01Digits ((List.getD z0.1 (1:Nat) (Go.Cm.bs [])),())) (fun(z3:(Bool×Unit))=>(if((!z3.1)=true)then(some (((false,(([]:List Int),([]:List Int))),false),()))
 else(if((decide ((1:Int)<((List.length z0.1):Int)))=true)then(Option.bind (S.s_l01NatRead ((List.getD z0.1 (1:Nat) (Go.Cm.bs [])),())) (fun(z4:((List Int)×Unit))=>(Option.bind (S.s_l01Cmp (z4.1,(((1:Int)::([]:List Int)),()))) (fun(z5:(Int×Unit))=>(if((decide (z5.1<=(0:Int)))=true)then(some (((false,(([]:List Int),([]:List Int))),false),()))
 else(Option.bind (S.s_l01Gcd (z2.1,(z4.1,()))) (fun(z6:((List Int)×Unit))=>(Option.bind (S.s_l01Cmp (z6.1,(((1:Int)::([]:List Int)),()))) (fun(z7:(Int×Unit))=>(if((z7.1 != (0:Int))=true)then(some (((false,(([]:List Int),([]:List Int))),false),()))
 else(some (((false,(z2.1,z4.1)),true),()))))))))))))
 else none))))
 else none))))
 else none))))
 else none))))=some ((rp B10 (rdBody false (cutP 47 T.data.toList)).1,(rdBody false (cutP 47 T.data.toList)).2),()):=by
 have hbad:((false,(([]:List Int),([]:List Int))),false)=(rp B10 noQ.1,noQ.2):=by
  unfold noQ rp;dsimp only;rw[nd_zero B10_le]
 have hcut:S.s_l01Cut (T,(47,()))=some ((cutUp T 47 (T.size+1)).1,()):=by
  unfold S.s_l01Cut;exact if_pos hsz
 have hp:(cutUp T 47 (T.size+1)).1.map (·.data.toList)=pieces 47 T.data.toList:=cutUp_pieces T 47;have hlen:∀A∈(cutUp T 47 (T.size+1)).1,A.data.toList.length<=1000000:=by
  intro A hA;have h1:=pieces_len 47 T.data.toList A.data.toList (by rw[<-hp];exact List.mem_map_of_mem hA);have h2:T.size=T.data.toList.length:=by rw[Array.length_toList];rfl
  omega
 rw[hcut,Option.bind_some,hbad];generalize (cutUp T 47 (T.size+1)).1=ps at*;rw[pieces_cutP]at hp;generalize hc:cutP 47 T.data.toList=c at*;have hDig:∀A∈ps,S.s_l01Digits (A,())=some (okN A.data.toList,()):=by
  intro A hA;have h1:=hlen A hA;have h2:A.size=A.data.toList.length:=by rw[Array.length_toList];rfl
  unfold S.s_l01Digits;exact if_pos (by dsimp only;omega)
 have hRead:∀A∈ps,okN A.data.toList=true->S.s_l01NatRead (A,())=some (nd B10 (dv A.data.toList),()):=by
  intro A hA hok;have h1:=okN_allD hok;unfold S.s_l01NatRead;exact if_pos ⟨h1.1,by dsimp only;omega⟩
 have hz:∀m:Nat,(((nd B10 m).length:Int)==0)=decide (m=0):=by
  intro m;have:=canon_nil B10_le (canon_nd B10_le m);rw[dval_nd B10_le]at this
  by_cases h0:m=0
  ·rw[this.2 h0,h0];rfl
  ·have hne:=fun q=>h0 (this.1 q)
   rw[decide_eq_false h0];simpa using hne
 have hone:([1]:List Int)=nd B10 1:=(nd_one B10_le).symm;unfold rdBody;cases hf:c.2.2
 ·
  rw[hf,if_neg (by decide)]at hp;obtain⟨A,rfl,hA⟩:∃A,ps=[A]/\A.data.toList=c.1:=by
   exact List.map_eq_singleton_iff.1 hp
  have hd:=hDig A (by simp);have hr:=hRead A (by simp);rw[hA]at hd hr;have l1:¬(((List.length [A]:Nat):Int)>2):=by simp
  have l2:(0:Int)<((List.length [A]:Nat):Int):=by simp
  have l3:(((List.length [A]:Nat):Int)==1)=true:=rfl;simp only[l1,l2,l3,decide_true,decide_false,if_true,if_false,Bool.false_eq_true,List.getD_cons_zero];rw[hd,Option.bind_some];dsimp only;cases hok:okN c.1
  ·rw[if_pos (show(!false)=true by rfl),if_neg (fun q=>by cases q.1)]
  ·rw[if_neg (show ¬((!true)=true) by decide),hr hok,Option.bind_some];dsimp only;rw[if_pos ⟨rfl,fun q=>by cases q.1⟩,hone];rfl
 ·rw[hf,if_pos rfl,pieces_cutP]at hp;cases hf2:(cutP 47 c.2.1).2.2
  ·rw[hf2,if_neg (by decide)]at hp;have hy:(cutP 47 c.2.1).1=c.2.1:=((cutP_index 47 c.2.1).1 hf2).2.1;rw[hy]at hp;obtain⟨A,B,rfl,hA,hB⟩:∃A B,ps=[A,B]/\A.data.toList=c.1/\B.data.toList=c.2.1:=by
    obtain⟨A,q,rfl,hA,hq⟩:=List.map_eq_cons_iff.1 hp;obtain⟨B,rfl,hB⟩:=List.map_eq_singleton_iff.1 hq;exact⟨A,B,rfl,hA,hB⟩
   have hd:=hDig A (by simp);have hr:=hRead A (by simp);have hd2:=hDig B (by simp);have hr2:=hRead B (by simp);rw[hA]at hd hr;rw[hB]at hd2 hr2;have l1:¬(((List.length [A,B]:Nat):Int)>2):=by simp
   have l2:(0:Int)<((List.length [A,B]:Nat):Int):=by simp
   have l3:(((List.length [A,B]:Nat):Int)==1)=false:=rfl;have l4:(1:Int)<((List.length [A,B]:Nat):Int):=by simp
   simp only[l1,l2,l3,l4,decide_true,decide_false,if_true,if_false,Bool.false_eq_true,List.getD_cons_zero,List.getD_cons_succ];rw[hd,Option.bind_some];dsimp only;cases hok:okN c.1
   ·rw[if_pos (show(!false)=true by rfl),if_neg (fun q=>by cases q.1)]
   ·rw[if_neg (show ¬((!true)=true) by decide),hr hok,Option.bind_some];dsimp only;have la:=nd_len200 (B:=B10) (by decide) (okN_lt hok);have hrest:∀(m:Bool),¬(m=true/\dv c.1=0)->(Option.bind (S.s_l01Digits (B,())) (fun(w0:(Bool×Unit))=>(if((!w0.1)=true)then(some ((rp B10 noQ.1,noQ.2),()))
 else(Option.bind (S.s_l01NatRead (B,())) (fun(w1:((List Int)×Unit))=>(Option.bind (S.s_l01Cmp (w1.1,(((1:Int)::([]:List Int)),()))) (fun(w2:(Int×Unit))=>(if((decide (w2.1<=(0:Int)))=true)then(some ((rp B10 noQ.1,noQ.2),()))
 else(Option.bind (S.s_l01Gcd (nd B10 (dv c.1),(w1.1,()))) (fun(w3:((List Int)×Unit))=>(Option.bind (S.s_l01Cmp (w3.1,(((1:Int)::([]:List Int)),()))) (fun(w4:(Int×Unit))=>(if((w4.1 != (0:Int))=true)then(some ((rp B10 noQ.1,noQ.2),()))
 else(some (((m,(nd B10 (dv c.1),w1.1)),true),())))))))))))))))=some ((rp B10 (if okN c.2.1=true/\1<dv c.2.1/\Nat.gcd (dv c.1) (dv c.2.1)=1 then((m,(dv c.1,dv c.2.1)),true)else noQ).1,(if okN c.2.1=true/\1<dv c.2.1/\Nat.gcd (dv c.1) (dv c.2.1)=1 then((m,(dv c.1,dv c.2.1)),true)else noQ).2),()):=by
     intro m hm;rw[hd2,Option.bind_some];dsimp only;cases hb:okN c.2.1
     ·have hx:¬((false:Bool)=true/\1<dv c.2.1/\Nat.gcd (dv c.1) (dv c.2.1)=1):=fun q=>by cases q.1
      rw[if_pos (show(!false)=true by rfl),if_neg hx]
     ·have lb:=nd_len200 (B:=B10) (by decide) (okN_lt hb);rw[if_neg (show ¬((!true)=true) by decide),hr2 hb,Option.bind_some];dsimp only;have e1:S.s_l01Cmp (nd B10 (dv c.2.1),([1],()))=some (cmpN (dv c.2.1) 1,()):=by
       unfold S.s_l01Cmp;dsimp only;rw[if_pos ⟨canon_nd B10_le _,canon_one B10_le,by omega⟩,dval_nd B10_le,dval_one]
      have e2:S.s_l01Gcd (nd B10 (dv c.1),(nd B10 (dv c.2.1),()))=some (nd B10 (Nat.gcd (dv c.1) (dv c.2.1)),()):=by
       unfold S.s_l01Gcd;dsimp only;rw[if_pos ⟨canon_nd B10_le _,canon_nd B10_le _,by omega,by omega⟩,dval_nd B10_le,dval_nd B10_le]
      rw[e1,Option.bind_some];dsimp only
      by_cases h1:1<dv c.2.1
      ·have hcm:¬(cmpN (dv c.2.1) 1<=0):=by
        have:=(cmpN_gt (a:=dv c.2.1) (b:=1)).2 h1;omega
       have lg:(nd B10 (Nat.gcd (dv c.1) (dv c.2.1))).length<=200:=Nat.le_trans (nd_shorter' B10_le (Nat.le_of_dvd (by omega) (Nat.gcd_dvd_right _ _))) lb;have e3:S.s_l01Cmp (nd B10 (Nat.gcd (dv c.1) (dv c.2.1)),([1],()))=some (cmpN (Nat.gcd (dv c.1) (dv c.2.1)) 1,()):=by
        unfold S.s_l01Cmp;dsimp only;rw[if_pos ⟨canon_nd B10_le _,canon_one B10_le,by omega⟩,dval_nd B10_le,dval_one]
       rw[if_neg (by simpa using hcm),e2,Option.bind_some];dsimp only;rw[e3,Option.bind_some];dsimp only
       by_cases hg:Nat.gcd (dv c.1) (dv c.2.1)=1
       ·rw[if_neg (by simpa using cmpN_zero.2 hg),if_pos ⟨rfl,h1,hg⟩];rfl
       ·rw[if_pos (by simpa using fun q=>hg (cmpN_zero.1 q)),if_neg (fun q=>hg q.2.2)]
      ·have hcm:cmpN (dv c.2.1) 1<=0:=by
        have h2:¬(cmpN (dv c.2.1) 1>0):=fun q=>h1 ((cmpN_gt (a:=dv c.2.1) (b:=1)).1 q)
        omega
       rw[if_pos (decide_eq_true hcm),if_neg (fun q=>h1 q.2.1)]
    have hm:¬((false:Bool)=true/\dv c.1=0):=fun q=>by cases q.1
    rw[if_pos ⟨rfl,fun q=>q.1⟩];exact hrest false hm
  ·
   rw[hf2,if_pos rfl]at hp;have hl:ps.length=2+(pieces 47 (cutP 47 c.2.1).2.1).length:=by
    have:=congrArg List.length hp;simp at this;omega
   have hl2:(pieces 47 (cutP 47 c.2.1).2.1).length≠0:=fun q=>pieces_ne 47 _ (List.eq_nil_of_length_eq_zero q)
   have l1:((ps.length:Nat):Int)>2:=by omega
   have hx:¬(okN c.2.1=true/\1<dv c.2.1/\Nat.gcd (dv c.1) (dv c.2.1)=1):=fun q=>by
    have:=cutP_allD (okN_allD q.1).1;rw[hf2]at this;cases this
   rw[if_pos (decide_eq_true l1),if_pos rfl,if_neg hx];split<;>rfl
def S.s_l01Parse (x:(ByteArray×Unit)):(Option ((RB×Bool)×Unit)):=if x.1.size<=1000000 then some ((rp B10 (rdRat x.1.data.toList).1,(rdRat x.1.data.toList).2),())else none
theorem S.s_l01Parse_ok (x r) (h:S.s_l01Parse x=some r):∃k,P.s_l01Parse k x=some r:=by
 obtain⟨s,u⟩:=x;unfold S.s_l01Parse at h;dsimp only at h;split at h
 case isFalse=>cases h
 rename_i hsz;refine⟨0,?_⟩;rw[<-h];unfold P.s_l01Parse;dsimp only;have hs:s.size=s.data.toList.length:=by rw[Array.length_toList];rfl
 unfold rdRat
 by_cases h0:s.data.toList=[]
 ·have l1:¬((s.size:Int)>0):=by rw[hs,h0];simp
  rw[if_neg (by simpa using l1),h0,if_neg (by simp),<-h0];exact pp_plain s hsz
 ·have hpos:0<s.data.toList.length:=List.length_pos_iff.2 h0;have l1:(s.size:Int)>0:=by omega
  have l2:(0:Int)<(s.size:Int):=by omega
  have l3:(0:Int)<=(s.size:Int):=by omega
  have l4:(1:Int)<=(s.size:Int):=by omega
  have hb:byteAt s 0=(s.data.toList[0].toNat:Int):=congrArg (fun c:UInt8=>(c.toNat:Int)) (getD_cast s.data.toList 0 0 hpos);have hh:s.data.toList.head? =some s.data.toList[0]:=by
   generalize s.data.toList=l at*;cases l with
   |nil=>simp at h0
   |cons c r=>rfl
  rw[if_pos (decide_eq_true l1),if_pos (decide_eq_true l2),hh,Int.toNat_natCast]
  by_cases c1:s.data.toList[0]=45
  ·have hn:(byteAt s 0==45)=true:=by
    rw[hb,c1];rfl
   have hx:(ByteArray.extract s 1 s.size).data.toList=s.data.toList.tail:=by
    rw[ext_list,List.take_of_length_le (by omega),List.drop_one]
   have hxs:(ByteArray.extract s 1 s.size).size<=1000000:=by
    have:(ByteArray.extract s 1 s.size).size=(ByteArray.extract s 1 s.size).data.toList.length:=by rw[Array.length_toList];rfl
    rw[this,hx];simp;omega
   rw[hn,if_pos rfl,if_pos (decide_eq_true l3),if_pos (decide_eq_true (Int.le_refl _)),if_pos (decide_eq_true l4),if_pos (by rw[c1])];have:=pp_sign (ByteArray.extract s 1 s.size) true hxs;rw[hx]at this;exact this
  ·have hn:(byteAt s 0==45)=false:=by
    rw[hb,beq_eq_false_iff_ne];intro q;apply c1;apply UInt8.toNat_inj.1;show _=45;omega
   rw[hn,if_neg (show ¬((false:Bool)=true) by decide),if_neg (by rw[Option.some.injEq];exact c1)];exact pp_sign s false hsz
abbrev P.s_l01List_b0 (x1:Int×Int×List ByteArray×List RB×Unit) (g2:Int×Int×List ByteArray×List RB×Unit->Option ((List RB×Bool)×Unit)):Option ((List RB×Bool)×Unit):=
 if decide (x1.1<x1.2.1)then if decide (0<=x1.1)then if decide (x1.1<(x1.2.2.1.length:Int))then(S.s_l01Parse (x1.2.2.1.getD x1.1.toNat (bs []),())).bind fun y3=>if !y3.1.2 then some (([],false),())else if decide (((x1.2.2.2.1.length+(List.length [(y3.1.1.1,y3.1.1.2.1,y3.1.1.2.2)]))*56)<=140737488355328)then g2 (wrap .i64 (x1.1+1),x1.2.1,x1.2.2.1,x1.2.2.2.1++[(y3.1.1.1,y3.1.1.2.1,y3.1.1.2.2)],())else none else none else none else some ((x1.2.2.2.1,true),())
def P.s_l01List (k:Nat) (x:List ByteArray×Unit):Option ((List RB×Bool)×Unit):=
 if decide ((x.1.length:Int)>300)then some (([],false),())else loopP P.s_l01List_b0 k (0,(x.1.length:Int),x.1,[],())
open Classical in
def S.s_l01List (x:((List ByteArray)×Unit)):(Option (((List RB)×Bool)×Unit)):=if okT x.1=true then some (((rdAll x.1).1.map (rp B10),(rdAll x.1).2),())else none
theorem s_l01List_read (s:ByteArray) (h:s.size<=1000000):S.s_l01Parse (s,())=some ((rp B10 (rdRat s.data.toList).1,(rdRat s.data.toList).2),()):=by
 unfold S.s_l01Parse;exact if_pos (by dsimp only;omega)
theorem S.s_l01List_ok (x r) (h:S.s_l01List x=some r):∃k,P.s_l01List k x=some r:=by
 obtain⟨ls,u⟩:=x;unfold S.s_l01List at h;dsimp only at h;split at h
 case isFalse=>cases h
 rename_i hc;cases h;refine⟨ls.length+1,?_⟩;unfold P.s_l01List rdAll;dsimp only
 by_cases hl:(ls.length:Int)>300
 ·rw[if_pos (decide_eq_true hl),if_neg (show ¬(ls.length<=300/\(ls.all fun s=>(rdRat s.data.toList).2)=true)from fun z=>by omega)];rfl
 rw[if_neg (by simpa using hl)];have key:=loop_up0 (k:=ls.length+1) (b:=P.s_l01List_b0) (n:=ls.length) (st:=fun i=>((i:Int),(ls.length:Int),ls,(ls.take i).map (fun s=>rp B10 (rdRat s.data.toList).1),())) (F:=fun i=>some (if((ls.drop i).all fun s=>(rdRat s.data.toList).2)=true then(ls.map (fun s=>rp B10 (rdRat s.data.toList).1),true)else([],false),())) (fun i g hi hg=>by
  unfold P.s_l01List_b0;dsimp only at hg ⊢;have e1:(i:Int)<(ls.length:Int):=by omega
  have e2:(0:Int)<=(i:Int):=by omega
  simp only[e1,e2,decide_true,if_true];rw[getD_cast ls i _ hi,s_l01List_read _ (okT_get hc hi),Option.bind_some,List.drop_eq_getElem_cons hi,List.all_cons];dsimp only;cases hf:(rdRat ls[i].data.toList).2
  ·rw[if_pos (by rfl),if_neg (by simp)]
  ·rw[if_neg (by simp),wr (by omega) (by omega),Bool.true_and,<-hg];have e3:((List.map (fun s:ByteArray=>rp B10 (rdRat s.data.toList).1) (ls.take i)).length+1)*56<=140737488355328:=by
    rw[List.length_map,List.length_take];omega
   simp only[List.length_cons,List.length_nil,Nat.zero_add];rw[if_pos (decide_eq_true e3),List.take_add_one,List.getElem?_eq_getElem hi,Option.toList_some,List.map_append];rfl) (fun g=>by
  unfold P.s_l01List_b0;dsimp only;rw[if_neg (by simp),List.take_length,List.drop_length];rfl) (by omega)
 refine key.trans ?_;rw[List.drop_zero]
 by_cases ha:(ls.all fun s=>(rdRat s.data.toList).2)=true
 ·rw[if_pos ha,if_pos (show ls.length<=300/\(ls.all fun s=>(rdRat s.data.toList).2)=true from⟨by omega,ha⟩),List.map_map];rfl
 ·rw[if_neg ha,if_neg (fun z=>ha z.2)];rfl
def P.s_l01Zero (k:Nat) (x:RB×Unit):Option (Bool×Unit):=
 some ((x.1.2.1.length:Int)==0,())
def S.s_l01Zero (x:(RB×Unit)):(Option (Bool×Unit)):=P.s_l01Zero 0 x
theorem S.s_l01Zero_ok (x r) (h:S.s_l01Zero x=some r):∃k,P.s_l01Zero k x=some r:=⟨0,h⟩
def P.s_l01Neg (k:Nat) (x:RB×Unit):Option (Bool×Unit):=
 some (x.1.1,())
def S.s_l01Neg (x:(RB×Unit)):(Option (Bool×Unit)):=P.s_l01Neg 0 x
theorem S.s_l01Neg_ok (x r) (h:S.s_l01Neg x=some r):∃k,P.s_l01Neg k x=some r:=⟨0,h⟩
abbrev P.s_l02Above_b0 (x1:Int×List RB×Unit) (g2:Int×List RB×Unit->Option (Bool×Unit)):Option (Bool×Unit):=
 (fun(a:Int) (b:List RB)=>if decide (a<(b.length:Int))then if decide (0<=a)then if decide (a<(b.length:Int))then(S.s_l01Zero (((b.getD a.toNat (false,[],[])).1,(b.getD a.toNat (false,[],[])).2.1,(b.getD a.toNat (false,[],[])).2.2),())).bind fun y3=>if y3.1 then some (false,())else if decide (0<=a)then if decide (a<(b.length:Int))then(S.s_l01Neg (((b.getD a.toNat (false,[],[])).1,(b.getD a.toNat (false,[],[])).2.1,(b.getD a.toNat (false,[],[])).2.2),())).bind fun y4=>if y4.1 then some (false,())else g2 (wrap .i64 (a+1),b,())else none else none else none else none else some (true,())) x1.1 x1.2.1
def P.s_l02Above (k:Nat) (x:List RB×Unit):Option (Bool×Unit):=
 loopP P.s_l02Above_b0 k (0,x.1,())
theorem sp_zero (r:Q3):S.s_l01Zero (rp B10 r,())=some (decide (r.2.1=0),()):=by
 unfold S.s_l01Zero P.s_l01Zero rp;dsimp only
 by_cases h:r.2.1=0
 ·rw[h,nd_zero B10_le];rfl
 ·have:=List.length_pos_iff.2 (nd_ne B10_le h);simp [h];exact nd_ne B10_le h
open Classical in
def S.s_l02Above (x:((List RB)×Unit)):(Option (Bool×Unit)):=if goodL B10 x.1 then some (ratesB (x.1.map (rv B10)),())else none
theorem S.s_l02Above_ok (x r) (h:S.s_l02Above x=some r):∃k,P.s_l02Above k x=some r:=by
 obtain⟨xs,u⟩:=x;unfold S.s_l02Above at h;dsimp only at h;split at h
 case isFalse=>cases h
 rename_i hc;cases h;obtain⟨qs,n,rfl,hg⟩:=hc;have hlen:=good_len hg;refine⟨qs.length+1,?_⟩;unfold P.s_l02Above;dsimp only;have key:=loop_up0 (k:=qs.length+1) (b:=P.s_l02Above_b0) (n:=qs.length) (st:=fun i=>((i:Int),qs.map (rp B10),())) (F:=fun i=>some (ratesB (qs.drop i),())) (fun i g hi hg'=>by
  unfold P.s_l02Above_b0;dsimp only at hg' ⊢;have e2:(0:Int)<=(i:Int):=by omega
  have e3:(i:Int)<((qs.map (rp B10)).length:Int):=by rw[List.length_map];omega
  simp only[e2,e3,decide_true,if_true];rw[getD_cast (qs.map (rp B10)) i _ (by rw[List.length_map];exact hi),List.getElem_map];have hr:=good_get (B:=B10) (by decide) hg hi;rw[lowb_iff,rv_rp B10_le]at hr;have hz:S.s_l01Zero (rp B10 qs[i],())=some (decide (qs[i].2.1=0),()):=sp_zero _;have hn:S.s_l01Neg (rp B10 qs[i],())=some (qs[i].1,()):=rfl;show Option.bind (S.s_l01Zero (rp B10 qs[i],())) _=_;rw[hz,Option.bind_some,List.drop_eq_getElem_cons hi];unfold ratesB at hg' ⊢;rw[List.all_cons];dsimp only;have hp:posQ qs[i]=(!qs[i].1&&decide (qs[i].2.1≠0)):=rfl
  by_cases h0:qs[i].2.1=0
  ·rw[if_pos (decide_eq_true h0),hp];simp [h0]
  ·rw[if_neg (by simpa using h0)];show Option.bind (S.s_l01Neg (rp B10 qs[i],())) _=_;rw[hn,Option.bind_some,hp];dsimp only;cases hs:qs[i].1
   ·rw[if_neg (by decide),wr (by omega) (by omega),decide_eq_true h0];exact hg'
   ·rfl) (fun g=>by
  unfold P.s_l02Above_b0;dsimp only;rw[if_neg (by simp),List.drop_length];rfl) (by omega)
 rw[map_rv B10_le];refine key.trans ?_;rw[List.drop_zero]
def P.s_l02Parse (k:Nat) (x:(List ByteArray×List ByteArray)×Unit):Option (((List RB×List RB)×Bool)×Unit):=
 if decide ((x.1.1.length:Int)<1)then some ((([],[]),false),())else if decide ((x.1.1.length:Int)>20)then some ((([],[]),false),())else if(x.1.2.length:Int) != (x.1.1.length:Int)then some ((([],[]),false),())else(S.s_l01List (x.1.1,())).bind fun y0=>(S.s_l01List (x.1.2,())).bind fun y1=>if !y0.1.2 then some ((([],[]),false),())else if !y1.1.2 then some ((([],[]),false),())else(S.s_l02Above (y0.1.1,())).bind fun y2=>if !y2.1 then some ((([],[]),false),())else(S.s_l02Above (y1.1.1,())).bind fun y3=>if !y3.1 then some ((([],[]),false),())else some (((y0.1.1,y1.1.1),true),())
def S.s_l02Parse (x:(((List ByteArray)×(List ByteArray))×Unit)):(Option ((((List RB)×(List RB))×Bool)×Unit)):=if okT x.1.1=true/\okT x.1.2=true then some ((((lineQ x.1.1 x.1.2).1.1.map (rp B10),(lineQ x.1.1 x.1.2).1.2.map (rp B10)),(lineQ x.1.1 x.1.2).2),())else none
theorem S.s_l02Parse_ok (x r) (h:S.s_l02Parse x=some r):∃k,P.s_l02Parse k x=some r:=by
 obtain⟨⟨us,ds⟩,u⟩:=x;unfold S.s_l02Parse at h;dsimp only at h;split at h
 case isFalse=>cases h
 rename_i hc;cases h;refine⟨0,?_⟩;unfold P.s_l02Parse S.s_l01List lineQ;dsimp only
 by_cases h1:1<=us.length
 case neg=>
  rw[if_pos (decide_eq_true (show(us.length:Int)<1 by omega))];simp [h1]
 rw[if_neg (by simpa using(show ¬(us.length:Int)<1 by omega))]
 by_cases h2:us.length<=20
 case neg=>
  rw[if_pos (decide_eq_true (show(us.length:Int)>20 by omega))];simp [h2]
 rw[if_neg (by simpa using(show ¬(us.length:Int)>20 by omega))]
 by_cases h3:ds.length=us.length
 case neg=>
  rw[if_pos (by simp;omega)];simp [h3]
 rw[if_neg (by simp;omega),if_pos hc.1,if_pos hc.2,Option.bind_some,Option.bind_some];dsimp only;rw[decide_eq_true h1,decide_eq_true h2,decide_eq_true h3];simp only[Bool.true_and];cases hu:(rdAll us).2
 ·rfl
 cases hd:(rdAll ds).2
 ·rfl
 have gu:=rdAll_goodL (B:=B10) hu;have gd:=rdAll_goodL (B:=B10) hd;have cu:S.s_l02Above ((rdAll us).1.map (rp B10),())=some (ratesB (rdAll us).1,()):=by
  unfold S.s_l02Above;dsimp only;rw[if_pos gu,map_rv B10_le]
 have cd:S.s_l02Above ((rdAll ds).1.map (rp B10),())=some (ratesB (rdAll ds).1,()):=by
  unfold S.s_l02Above;dsimp only;rw[if_pos gd,map_rv B10_le]
 simp only[Bool.not_true,Bool.false_eq_true,if_false];rw[cu,Option.bind_some];dsimp only;cases hx:ratesB (rdAll us).1
 ·rfl
 rw[if_neg (by decide),cd,Option.bind_some];dsimp only;cases hy:ratesB (rdAll ds).1
 ·rfl
 ·rfl
abbrev P.s_l01Dec_b0 (x1:List Int×Int×Int×Unit) (g2:List Int×Int×Int×Unit->Option (ByteArray×Unit)):Option (ByteArray×Unit):=
 (fun(a:List Int) (b c:Int)=>if(a.length:Int)==0 then if decide ((Int.tmod b 10)<0)then if decide ((((List.length [wrap .u8 (wrap .i64 (48+(wrap .i64 (0 - (Int.tmod b 10)))))])+a.length)*1)<=140737488355328)then g2 ([wrap .u8 (wrap .i64 (48+(wrap .i64 (0 - (Int.tmod b 10)))))]++a,wrap .i64 (Int.tdiv b 10),c,())else none else if decide ((((List.length [wrap .u8 (wrap .i64 (48+(Int.tmod b 10)))])+a.length)*1)<=140737488355328)then g2 ([wrap .u8 (wrap .i64 (48+(Int.tmod b 10)))]++a,wrap .i64 (Int.tdiv b 10),c,())else none else if b != 0 then if decide ((Int.tmod b 10)<0)then if decide ((((List.length [wrap .u8 (wrap .i64 (48+(wrap .i64 (0 - (Int.tmod b 10)))))])+a.length)*1)<=140737488355328)then g2 ([wrap .u8 (wrap .i64 (48+(wrap .i64 (0 - (Int.tmod b 10)))))]++a,wrap .i64 (Int.tdiv b 10),c,())else none else if decide ((((List.length [wrap .u8 (wrap .i64 (48+(Int.tmod b 10)))])+a.length)*1)<=140737488355328)then g2 ([wrap .u8 (wrap .i64 (48+(Int.tmod b 10)))]++a,wrap .i64 (Int.tdiv b 10),c,())else none else if decide (c<0)then if decide (((1+a.length)*1)<=140737488355328)then some (strOf ([45]++a),())else none else some (strOf a,())) x1.1 x1.2.1 x1.2.2.1
def P.s_l01Dec (k:Nat) (x:Int×Unit):Option (ByteArray×Unit):=
 loopP P.s_l01Dec_b0 k ([],x.1,x.1,())
def digI (u:Nat):List Int:=(Go.Lib.decDigits u).map fun b=>(b.toNat:Int)
theorem digI_small {u:Nat} (h:u<10):digI u=[48+(u:Int)]:=by
 unfold digI;rw[Go.Lib.decDigits,dif_pos h];simp only[List.map_cons,List.map_nil,List.cons.injEq,and_true];rw[UInt8.toNat_ofNat'];omega
theorem digI_step {u:Nat} (h:¬u<10):digI u=digI (u/10)++[48+((u%10:Nat):Int)]:=by
 unfold digI;rw[Go.Lib.decDigits,dif_neg h,List.map_append];simp only[List.map_cons,List.map_nil];rw[UInt8.toNat_ofNat'];congr 2;omega
theorem strOf_map (l:List UInt8):strOf (l.map fun b=>(b.toNat:Int))=⟨l.toArray⟩:=by
 unfold strOf;rw[List.map_map];have:((fun n:Int=>UInt8.ofNat n.toNat) ∘ fun b:UInt8=>(b.toNat:Int))=id:=by
  funext b;simp
 rw[this,List.map_id]
theorem wr8 {x:Int} (h0:0<=x) (h1:x<=255):IntKind.wrap .u8 x=x:=by
 show x%256=x;omega
def sgn (neg:Bool) (u:Nat):Int:=if neg=true then -(u:Int)else(u:Int)
theorem sgn_tmod (neg:Bool) (u:Nat):Int.tmod (sgn neg u) 10=sgn neg (u%10):=by
 cases neg
 ·show Int.tmod (u:Int) 10=((u%10:Nat):Int)
  rw[Int.tmod_eq_emod_of_nonneg (by omega)];omega
 ·show Int.tmod (-(u:Int)) 10= -((u%10:Nat):Int);rw[Int.neg_tmod,Int.tmod_eq_emod_of_nonneg (by omega)];omega
theorem sgn_tdiv (neg:Bool) (u:Nat):Int.tdiv (sgn neg u) 10=sgn neg (u/10):=by
 cases neg
 ·show Int.tdiv (u:Int) 10=((u/10:Nat):Int)
  rw[Int.tdiv_eq_ediv_of_nonneg (by omega)];omega
 ·show Int.tdiv (-(u:Int)) 10= -((u/10:Nat):Int);rw[Int.neg_tdiv,Int.tdiv_eq_ediv_of_nonneg (by omega)];omega
theorem dec_round (neg:Bool) (u:Nat) (n:Int) (out:List Int) (g:((List Int)×(Int×(Int×Unit)))->Option (ByteArray×Unit)) (hu:u<=9223372036854775808) (hs:neg=false->u<=9223372036854775807) (ho:out.length<=1000) (hc:out=[]\/u≠0):
  P.s_l01Dec_b0 (out,sgn neg u,n,()) g=g ((48+((u%10:Nat):Int))::out,sgn neg (u/10),n,()):=by
 have hw:IntKind.wrap .i64 (sgn neg (u/10))=sgn neg (u/10):=by
  apply wr<;>unfold sgn<;>split<;>omega
 have hA:∀(a b:Option (ByteArray×Unit)),(if((decide (sgn neg (u%10)<(0:Int)))=true)then a else b)=(if(sgn neg (u%10)<0)then a else b):=by
  intro a b
  by_cases h:sgn neg (u%10)<0<;>simp [h]
 have hneg:sgn neg (u%10)<0->IntKind.wrap .i64 ((0:Int) - sgn neg (u%10))=((u%10:Nat):Int):=by
  intro h;unfold sgn at h ⊢;split at h
  ·rename_i hn;rw[if_pos hn,wr (by omega) (by omega)];omega
  ·omega
 have hpos:¬sgn neg (u%10)<0->sgn neg (u%10)=((u%10:Nat):Int):=by
  intro h;unfold sgn at h ⊢;split at h
  ·rename_i hn;rw[if_pos hn];omega
  ·rename_i hn;rw[if_neg hn]
 have hch:IntKind.wrap .u8 (IntKind.wrap .i64 ((48:Int)+((u%10:Nat):Int)))=48+((u%10:Nat):Int):=by
  rw[wr (by omega) (by omega),wr8 (by omega) (by omega)]
 have hlen:∀c:Int,((List.length (c::([]:List Int))+List.length out)*1<=140737488355328):=by
  intro c;simp;omega
 unfold P.s_l01Dec_b0;dsimp only;have hu0:u≠0->sgn neg u≠0:=by
  intro h;unfold sgn;split<;>omega
 simp only[hA,sgn_tmod,sgn_tdiv,hw];have hin:∀X Y:Option (ByteArray×Unit),(sgn neg (u%10)<0->X=g ((48+((u%10:Nat):Int))::out,sgn neg (u/10),n,()))->(¬sgn neg (u%10)<0->Y=g ((48+((u%10:Nat):Int))::out,sgn neg (u/10),n,()))->
   (if sgn neg (u%10)<0 then X else Y)=g ((48+((u%10:Nat):Int))::out,sgn neg (u/10),n,()):=by
  intro X Y h1 h2;split
  ·exact h1 (by assumption)
  ·exact h2 (by assumption)
 have key:(if sgn neg (u%10)<0 then(if((decide (((List.length ((IntKind.wrap .u8 (IntKind.wrap .i64 ((48:Int)+(IntKind.wrap .i64 ((0:Int) - sgn neg (u%10))))))::([]:List Int))+(List.length out))*(1:Nat))<=(140737488355328:Nat)))=true)then(g ((((IntKind.wrap .u8 (IntKind.wrap .i64 ((48:Int)+(IntKind.wrap .i64 ((0:Int) - sgn neg (u%10))))))::([]:List Int))++out),(sgn neg (u/10),(n,()))))else none)
   else(if((decide (((List.length ((IntKind.wrap .u8 (IntKind.wrap .i64 ((48:Int)+sgn neg (u%10))))::([]:List Int))+(List.length out))*(1:Nat))<=(140737488355328:Nat)))=true)then(g ((((IntKind.wrap .u8 (IntKind.wrap .i64 ((48:Int)+sgn neg (u%10))))::([]:List Int))++out),(sgn neg (u/10),(n,()))))else none))=g ((48+((u%10:Nat):Int))::out,sgn neg (u/10),n,()):=by
  refine hin _ _ (fun h=> ?_) (fun h=> ?_)
  ·rw[if_pos (decide_eq_true (hlen _)),hneg h,hch];rfl
  ·rw[if_pos (decide_eq_true (hlen _)),hpos h,hch];rfl
 rcases hc with rfl|hc
 ·rw[if_pos (by rfl)];exact key
 ·by_cases ho':(((List.length out):Int)==(0:Int))=true
  ·rw[if_pos ho'];exact key
  ·rw[if_neg ho',if_pos (by simpa using hu0 hc)];exact key
theorem dec_end (neg:Bool) (n:Int) (out:List Int) (g:((List Int)×(Int×(Int×Unit)))->Option (ByteArray×Unit)) (ho:out.length<=1000) (hc:out≠ []):
  P.s_l01Dec_b0 (out,sgn neg 0,n,()) g=some (strOf (if n<0 then 45::out else out),()):=by
 unfold P.s_l01Dec_b0;dsimp only;have h0:sgn neg 0=0:=by cases neg<;>rfl
 rw[if_neg (by simpa using hc),h0,if_neg (by decide)]
 by_cases hn:n<0
 ·rw[if_pos (decide_eq_true hn),if_pos (decide_eq_true (by omega)),if_pos hn];rfl
 ·rw[if_neg (by simpa using hn),if_neg hn]
theorem dec_loop (neg:Bool) (n:Int):∀(u:Nat) (out:List Int) (k:Nat),u≠0->u<=9223372036854775808->(neg=false->u<=9223372036854775807)->out.length+u.log2<=900->u.log2+2<=k->
  loopP P.s_l01Dec_b0 k (out,sgn neg u,n,())=some (strOf (if n<0 then 45::(digI u++out)else digI u++out),()):=by
 intro u
 induction u using Nat.strongRecOn with
 |ind u ih=>
  intro out k h0 hu hs ho hk;obtain⟨k,rfl⟩:∃j,k=j+1:=⟨k - 1,by omega⟩
  rw[loopP_succ,dec_round neg u n out _ hu hs (by omega) (.inr h0)]
  by_cases h:u<10
  ·have e:u/10=0:=by omega
   obtain⟨k,rfl⟩:∃j,k=j+1:=⟨k - 1,by omega⟩
   rw[e,loopP_succ,dec_end neg n _ _ (by simp;omega) (by simp),digI_small h,Nat.mod_eq_of_lt h];rfl
  ·have hl:(u/10).log2+1<=u.log2:=by
    have h2:u/10≠0:=by omega
    have a1:2^(u/10).log2<=u/10:=Nat.log2_self_le h2;have a2:2^((u/10).log2+1)<=u:=by rw[Nat.pow_succ];omega
    exact(Nat.le_log2 h0).2 a2
   rw[ih (u/10) (by omega) _ k (by omega) (by omega) (fun hn=>by have:=hs hn;omega) (by simp;omega) (by omega),digI_step h];simp
def S.s_l01Dec (x:(Int×Unit)):(Option (ByteArray×Unit)):=if -9223372036854775808<=x.1/\x.1<=9223372036854775807 then some (⟨(Go.Lib.itoa x.1).toArray⟩,())else none
theorem S.s_l01Dec_ok (x r) (h:S.s_l01Dec x=some r):∃k,P.s_l01Dec k x=some r:=by
 obtain⟨n,u⟩:=x;unfold S.s_l01Dec at h;dsimp only at h;split at h
 case isFalse=>cases h
 rename_i hn;cases h;refine⟨200,?_⟩;unfold P.s_l01Dec;dsimp only;have hsg:∃neg,n=sgn neg n.natAbs/\(neg=true↔n<0):=by
  by_cases h:n<0
  ·exact⟨true,by unfold sgn;simp;omega,by simp [h]⟩
  ·exact⟨false,by unfold sgn;simp;omega,by simp [h]⟩
 obtain⟨neg,h1,h2⟩:=hsg;have hfin:strOf (if n<0 then 45::digI n.natAbs else digI n.natAbs)=⟨(Go.Lib.itoa n).toArray⟩:=by
  unfold Go.Lib.itoa digI;split
  ·rw[<-strOf_map];rfl
  ·rw[<-strOf_map];have:n.natAbs=n.toNat:=by omega
   rw[this]
 by_cases h0:n.natAbs=0
 ·have hn0:n=0:=by omega
  subst hn0;have e0:(0:Int)=sgn false 0:=rfl;show loopP P.s_l01Dec_b0 (198+1+1) ([],0,0,())=_;rw[loopP_succ]
  conv=>lhs;rw[show(([]:List Int),(0:Int),(0:Int),())=([],sgn false 0,0,())from rfl]
  rw[dec_round false 0 0 [] _ (by omega) (by omega) (by simp) (.inl rfl),loopP_succ,show 0/10=0 from rfl,dec_end false 0 _ _ (by simp) (by simp),<-hfin];rw[show(0:Int).natAbs=0 from rfl,digI_small (by omega)]
 ·have hb:n.natAbs<=9223372036854775808:=by omega
  have hl:n.natAbs.log2<=64:=by
   have:n.natAbs.log2<65:=(Nat.log2_lt h0).2 (by omega);omega
  have:=dec_loop neg n n.natAbs [] 200 h0 hb (fun hf=>by
   have:¬n<0:=fun h=>by rw[h2.2 h]at hf;cases hf
   omega) (by simp;omega) (by omega)
  rw[<-h1]at this;rw[this,List.append_nil,hfin]
abbrev P.s_l01NatText_b1 (x2:Int×List Int×ByteArray×Unit) (g3:Int×List Int×ByteArray×Unit->Option (ByteArray×Unit)):Option (ByteArray×Unit):=
 if decide (x2.1>=0)then if decide (0<=x2.1)then if decide (x2.1<(x2.2.1.length:Int))then(S.s_l01Dec (wrap .i64 ((x2.2.1.getD x2.1.toNat 0)+1000000000),())).bind fun y4=>if decide (0<=(y4.1.size:Int))then if decide ((y4.1.size:Int)<=(y4.1.size:Int))then if decide (1<=(y4.1.size:Int))then if decide ((x2.2.2.1.size+(ByteArray.size (ByteArray.extract y4.1 1 (Int.toNat (y4.1.size:Int)))))<=9223372036854775807)then g3 (wrap .i64 (x2.1 - 1),x2.2.1,x2.2.2.1++(ByteArray.extract y4.1 1 (Int.toNat (y4.1.size:Int))),())else none else none else none else none else none else none else some (x2.2.2.1,())
def P.s_l01NatText (k:Nat) (x:List Int×Unit):Option (ByteArray×Unit):=
 if(x.1.length:Int)==0 then some (bs [48],())else if decide (0<=(wrap .i64 ((x.1.length:Int) - 1)))then if decide ((wrap .i64 ((x.1.length:Int) - 1))<(x.1.length:Int))then(S.s_l01Dec (x.1.getD (Int.toNat (wrap .i64 ((x.1.length:Int) - 1))) 0,())).bind fun y0=>loopP P.s_l01NatText_b1 k (wrap .i64 ((x.1.length:Int) - 2),x.1,y0.1,())else none else none
def S.s_l01NatText (x:((List Int)×Unit)):(Option (ByteArray×Unit)):=if canon B10 x.1=true/\x.1.length<=40000000 then some (⟨(Go.Lib.decDigits (dval B10 x.1)).toArray⟩,())else none
theorem S.s_l01NatText_ok (x r) (h:S.s_l01NatText x=some r):∃k,P.s_l01NatText k x=some r:=by
 obtain⟨xs,u⟩:=x;unfold S.s_l01NatText at h;dsimp only at h;split at h
 case isFalse=>cases h
 rename_i hc;obtain⟨ca,la⟩:=hc;cases h;refine⟨xs.length+1,?_⟩;unfold P.s_l01NatText;dsimp only
 by_cases he:xs=[]
 ·subst he;rw[if_pos (by rfl),show dval B10 []=0 from rfl,dec_small (by decide)];rfl
 ·have hpos:0<xs.length:=List.length_pos_iff.2 he;obtain⟨m,hm⟩:∃m,xs.length=m+1:=⟨xs.length - 1,by omega⟩
  have dx:=canon_dig ca;have h0:dval B10 xs≠0:=by
   intro q;have:=canon_eq ca;rw[q,nd_zero B10_le]at this;exact he this.symm
  have hdec:∀z:Int,0<=z->z<=2000000000->S.s_l01Dec (z,())=some (⟨(Go.Lib.decDigits z.toNat).toArray⟩,()):=by
   intro z z0 z1;unfold S.s_l01Dec;dsimp only;rw[if_pos ⟨by omega,by omega⟩];unfold Go.Lib.itoa;rw[if_neg (by omega)]
  have hnz:∀i,i<=m->dval B10 (xs.drop i)≠0:=by
   intro i hi q;have h1:=dval_append (B:=B10) (xs.take i) (xs.drop i);rw[List.take_append_drop,q,Nat.mul_zero,Nat.add_zero]at h1;have h2:=dval_lt (dig_take dx i);have h3:(xs.take i).length=i:=by simp;omega
   rw[h3]at h2;have h4:=nd_low B10_le h0;rw[canon_eq ca,hm,Nat.add_sub_cancel]at h4;have h5:B10^i<=B10^m:=Nat.pow_le_pow_right (by decide) hi;omega
  have hlenD:∀i,(Go.Lib.decDigits (dval B10 (xs.drop i))).length<=9*xs.length:=by
   intro i;have h1:=dval_lt (dig_drop dx i);have h2:B10^(xs.drop i).length<=B10^xs.length:=Nat.pow_le_pow_right (by decide) (by simp);rw[show B10=10^9 by decide,<-Nat.pow_mul,<-Nat.pow_mul]at h2;rw[show B10^(xs.drop i).length=10^(9*(xs.drop i).length) by rw[show B10=10^9 by decide,<-Nat.pow_mul]]at h1;exact dec_len (by omega) (by omega)
  have c1:(0:Int)<=(m:Int):=by omega
  have c2:(m:Int)<((m+1:Nat):Int):=by omega
  rw[if_neg (by simp;exact he),hm,wr (x:=((m+1:Nat):Int) - 1) (by omega) (by omega),wr (x:=((m+1:Nat):Int) - 2) (by omega) (by omega),show((m+1:Nat):Int) - 1=(m:Int) by omega,if_pos (decide_eq_true c1),if_pos (decide_eq_true c2),Int.toNat_natCast];have gx:=dig_getD (B:=B10) (by decide) dx m;have gx1:xs.getD m 0<1000000000:=gx.2;rw[hdec _ gx.1 (by omega),Option.bind_some];have hlast:(xs.getD m 0).toNat=dval B10 (xs.drop m):=by
   rw[dval_drop (by omega),List.drop_of_length_le (by omega)];simp [dval]
  rw[hlast];have key:=loop_up0 (k:=m+1+1) (b:=P.s_l01NatText_b1) (n:=m) (st:=fun i=>((m:Int) - 1 - (i:Int),xs,(⟨(Go.Lib.decDigits (dval B10 (xs.drop (m - i)))).toArray⟩:ByteArray),())) (F:=fun i=>some (⟨(Go.Lib.decDigits (dval B10 xs)).toArray⟩,())) (fun i g hi hg=>by
   unfold P.s_l01NatText_b1;dsimp only at hg ⊢;obtain⟨j,hj⟩:∃j,m - i=j+1:=⟨m - i - 1,by omega⟩
   rw[show m - (i+1)=j by omega,show(m:Int) - 1 - ((i+1:Nat):Int)=(j:Int) - 1 by omega]at hg;rw[hj,show(m:Int) - 1 - (i:Int)=(j:Int) by omega];have d1:(j:Int)>=0:=by omega
   have d2:(0:Int)<=(j:Int):=by omega
   have d3:(j:Int)<(xs.length:Int):=by omega
   have gx:=dig_getD (B:=B10) (by decide) dx j;have gx1:xs.getD j 0<1000000000:=gx.2;have gx0:=gx.1;rw[if_pos (decide_eq_true d1),if_pos (decide_eq_true d2),if_pos (decide_eq_true d3),Int.toNat_natCast,wr (x:=xs.getD j 0+1000000000) (by omega) (by omega),hdec _ (by omega) (by omega),Option.bind_some];dsimp only;obtain⟨z,hz⟩:∃z:Nat,xs.getD j 0=(z:Int):=⟨(xs.getD j 0).toNat,by omega⟩
   have hzl:z<10^9:=by rw[show(10:Nat)^9=1000000000 by decide];omega
   have e1:=nine_all z (xs.getD j 0) hz hzl;rw[e1];have hs:(⟨(49::decPad 9 z).toArray⟩:ByteArray).size=10:=by rw[ba_sz,List.length_cons,decPad_len]
   have hx:ByteArray.extract ⟨(49::decPad 9 z).toArray⟩ 1 10=⟨(decPad 9 z).toArray⟩:=by
    apply ByteArray.ext;rw[ByteArray.data_extract];have hl:(decPad 9 z).length=9:=decPad_len _ _;simp [List.extract_toArray,List.take_of_length_le,hl]
   rw[hs];have f1:(0:Int)<=((10:Nat):Int):=by decide
   have f2:(1:Int)<=((10:Nat):Int):=by decide
   rw[if_pos (decide_eq_true f1),if_pos (decide_eq_true (Int.le_refl _)),if_pos (decide_eq_true f2),show(((10:Nat):Int)).toNat=10 from rfl,hx];have hl1:=hlenD (j+1);have f3:(⟨(Go.Lib.decDigits (dval B10 (xs.drop (j+1)))).toArray⟩:ByteArray).size+(⟨(decPad 9 z).toArray⟩:ByteArray).size<=9223372036854775807:=by
    rw[ba_sz,ba_sz,decPad_len];omega
   rw[if_pos (decide_eq_true f3),ba_app,wr (x:=(j:Int) - 1) (by omega) (by omega)];have e2:Go.Lib.decDigits (dval B10 (xs.drop (j+1)))++decPad 9 z=Go.Lib.decDigits (dval B10 (xs.drop j)):=by
    rw[dval_drop (xs:=xs) (i:=j) (by omega),hz,Int.toNat_natCast];generalize hD:dval B10 (xs.drop (j+1))=D;have hD0:0<D:=by rw[<-hD];exact Nat.pos_of_ne_zero (hnz (j+1) (by omega))
    have e3:z+B10*D=D*10^9+z:=by rw[Nat.add_comm,Nat.mul_comm]
    rw[e3,dec_split 9 D z hD0 hzl]
   rw[e2];exact hg) (fun g=>by
   unfold P.s_l01NatText_b1;dsimp only;rw[if_neg (by simp;omega),Nat.sub_self,List.drop_zero]) (by omega)
  rw[Nat.sub_zero,show(m:Int) - 1 - ((0:Nat):Int)=((m+1:Nat):Int) - 2 by omega]at key;exact key
def P.s_l01Fits (k:Nat) (x:RB×Unit):Option (Bool×Unit):=
 (S.s_l01NatText (x.1.2.1,())).bind fun y0=>if decide ((y0.1.size:Int)<=200)then(S.s_l01NatText (x.1.2.2,())).bind fun y1=>some (decide ((y1.1.size:Int)<=200),())else some (false,())
def S.s_l01Fits (x:(RB×Unit)):(Option (Bool×Unit)):=P.s_l01Fits 0 x
theorem S.s_l01Fits_ok (x r) (h:S.s_l01Fits x=some r):∃k,P.s_l01Fits k x=some r:=⟨0,h⟩
def P.s_l01Show (k:Nat) (x:RB×Unit):Option (ByteArray×Unit):=
 (S.s_l01NatText (x.1.2.1,())).bind fun y0=>if x.1.1 then if decide ((1+y0.1.size)<=9223372036854775807)then(S.s_l01Cmp (x.1.2.2,[1],())).bind fun y1=>if y1.1 != 0 then(S.s_l01NatText (x.1.2.2,())).bind fun y2=>if decide ((1+y2.1.size)<=9223372036854775807)then if decide (((ByteArray.size ((bs [45])++y0.1))+(ByteArray.size ((bs [47])++y2.1)))<=9223372036854775807)then some (((bs [45])++y0.1)++((bs [47])++y2.1),())else none else none else some ((bs [45])++y0.1,())else none else(S.s_l01Cmp (x.1.2.2,[1],())).bind fun y3=>if y3.1 != 0 then(S.s_l01NatText (x.1.2.2,())).bind fun y4=>if decide ((1+y4.1.size)<=9223372036854775807)then if decide ((y0.1.size+(ByteArray.size ((bs [47])++y4.1)))<=9223372036854775807)then some (y0.1++((bs [47])++y4.1),())else none else none else some (y0.1,())
def S.s_l01Show (x:(RB×Unit)):(Option (ByteArray×Unit)):=P.s_l01Show 0 x
theorem S.s_l01Show_ok (x r) (h:S.s_l01Show x=some r):∃k,P.s_l01Show k x=some r:=⟨0,h⟩
def P.s_l01Give (k:Nat) (x:RB×Unit):Option ((ByteArray×Bool)×Unit):=
 (S.s_l01Fits ((x.1.1,x.1.2.1,x.1.2.2),())).bind fun y0=>if !y0.1 then some ((bs [],false),())else(S.s_l01Show ((x.1.1,x.1.2.1,x.1.2.2),())).bind fun y1=>some ((y1.1,true),())
def S.s_l01Give (x:(RB×Unit)):(Option ((ByteArray×Bool)×Unit)):=if rok B10 40000000 x.1=true then some (giveN (rv B10 x.1),())else none
theorem S.s_l01Give_ok (x r) (h:S.s_l01Give x=some r):∃k,P.s_l01Give k x=some r:=by
 obtain⟨⟨neg,as,bs'⟩,u⟩:=x;unfold S.s_l01Give at h;dsimp only at h;split at h
 case isFalse=>cases h
 rename_i hc;cases h;rw[rok_iff]at hc;obtain⟨ca,cb,la,lb⟩:=hc;dsimp only at ca cb la lb;refine⟨0,?_⟩;unfold P.s_l01Give S.s_l01Fits S.s_l01Show P.s_l01Fits P.s_l01Show;dsimp only;have e1:∀xs,canon B10 xs=true->xs.length<=40000000->S.s_l01NatText (xs,())=some (⟨(Go.Lib.decDigits (dval B10 xs)).toArray⟩,()):=by
  intro xs cx lx;unfold S.s_l01NatText;exact if_pos ⟨cx,lx⟩
 have e3:S.s_l01Cmp (bs',([1],()))=some (cmpN (dval B10 bs') 1,()):=by
  unfold S.s_l01Cmp;dsimp only;rw[if_pos ⟨cb,canon_one B10_le,by omega⟩,dval_one]
 rw[e1 as ca la,Option.bind_some,e1 bs' cb lb,Option.bind_some,e3,Option.bind_some];dsimp only;have l1:=canon_dec (show B10<=10^10 by decide) ca;have l2:=canon_dec (show B10<=10^10 by decide) cb;unfold giveN rv ratTx fitN;dsimp only;generalize Go.Lib.decDigits (dval B10 as)=t1 at*;generalize Go.Lib.decDigits (dval B10 bs')=t2 at*;rw[show bs [45]=⟨([45]:List UInt8).toArray⟩from rfl,show bs [47]=⟨([47]:List UInt8).toArray⟩from rfl];simp only[Option.bind_some];rw[ba_app,ba_app,ba_app,ba_app,ba_sz,ba_sz,ba_sz,ba_sz];have c1:(1+t1.length<=9223372036854775807):=by omega
 have c2:(1+t2.length<=9223372036854775807):=by omega
 have c3:([45]++t1).length+([47]++t2).length<=9223372036854775807:=by simp;omega
 have c4:t1.length+([47]++t2).length<=9223372036854775807:=by simp;omega
 simp only[c1,c2,c3,c4,decide_true,if_true];have d1:∀t:List UInt8,decide (((t.length:Nat):Int)<=200)=decide (t.length<=200):=by
  intro t;rw[decide_eq_decide];omega
 rw[d1,d1];have d2:((cmpN (dval B10 bs') 1 != 0)=true)↔¬dval B10 bs'=1:=by
  rw[<-cmpN_zero (b:=1)];simp
 by_cases f1:t1.length<=200
 ·by_cases f2:t2.length<=200
  ·by_cases hq:dval B10 bs'=1
   ·have n2:¬((cmpN 1 1 != 0)=true):=by decide
    cases neg<;>simp only[f1,f2,n2,hq,decide_true,if_true,if_false,Bool.false_eq_true,List.append_nil,List.nil_append,Option.bind_some,Bool.not_true,Bool.and_true]
   ·have n2:((cmpN (dval B10 bs') 1 != 0)=true):=d2.2 hq;cases neg<;>simp only[f1,f2,n2,hq,decide_true,if_true,if_false,Bool.false_eq_true,List.nil_append,Option.bind_some,Bool.not_true,Bool.and_true]<;>simp
  ·simp [f1,f2]
 ·simp [f1]
abbrev P.s_l01GiveAll_b0 (x1:Int×Int×List RB×List ByteArray×Unit) (g2:Int×Int×List RB×List ByteArray×Unit->Option ((List ByteArray×Bool)×Unit)):Option ((List ByteArray×Bool)×Unit):=
 if decide (x1.1<x1.2.1)then if decide (0<=x1.1)then if decide (x1.1<(x1.2.2.1.length:Int))then(S.s_l01Give (((x1.2.2.1.getD x1.1.toNat (false,[],[])).1,(x1.2.2.1.getD x1.1.toNat (false,[],[])).2.1,(x1.2.2.1.getD x1.1.toNat (false,[],[])).2.2),())).bind fun y3=>if !y3.1.2 then some (([],false),())else if decide (((x1.2.2.2.1.length+(List.length [y3.1.1]))*16)<=140737488355328)then g2 (wrap .i64 (x1.1+1),x1.2.1,x1.2.2.1,x1.2.2.2.1++[y3.1.1],())else none else none else none else some ((x1.2.2.2.1,true),())
def P.s_l01GiveAll (k:Nat) (x:List RB×Unit):Option ((List ByteArray×Bool)×Unit):=
 loopP P.s_l01GiveAll_b0 k (0,(x.1.length:Int),x.1,[],())
def S.s_l01GiveAll (x:((List RB)×Unit)):(Option (((List ByteArray)×Bool)×Unit)):=if x.1.all (rok B10 40000000)=true/\x.1.length<=1000000 then some (giveL (x.1.map (rv B10)),())else none
theorem S.s_l01GiveAll_ok (x r) (h:S.s_l01GiveAll x=some r):∃k,P.s_l01GiveAll k x=some r:=by
 obtain⟨xs,u⟩:=x;unfold S.s_l01GiveAll at h;dsimp only at h;split at h
 case isFalse=>cases h
 rename_i hc;cases h;obtain⟨qs,rfl⟩:∃qs:List Q3,xs=qs.map (rp B10):=⟨xs.map (rv B10),by
  rw[List.map_map];have:∀ys:List (Bool×(List Int×List Int)),ys.all (rok B10 40000000)=true->ys.map (rp B10 ∘ rv B10)=ys:=by
   intro ys
   induction ys with
   |nil=>intro _;rfl
   |cons y ys ih=>
    intro hy;rw[List.all_cons,Bool.and_eq_true]at hy;rw[List.map_cons,ih hy.2];show rp B10 (rv B10 y)::ys=_;rw[rp_rv hy.1]
  exact(this xs hc.1).symm⟩
 have hlen:=hc.2;rw[List.length_map]at hlen;refine⟨qs.length+1,?_⟩;unfold P.s_l01GiveAll giveL;dsimp only;have key:=loop_up0 (k:=qs.length+1) (b:=P.s_l01GiveAll_b0) (n:=qs.length) (st:=fun i=>((i:Int),(qs.length:Int),qs.map (rp B10),(qs.take i).map (fun r:Q3=>(⟨(ratTx r).toArray⟩:ByteArray)),())) (F:=fun i=>some (if(qs.drop i).all fitN=true then(qs.map (fun r:Q3=>(⟨(ratTx r).toArray⟩:ByteArray)),true)else([],false),())) (fun i g hi hg'=>by
  unfold P.s_l01GiveAll_b0;dsimp only at hg' ⊢;have e1:(i:Int)<(qs.length:Int):=by omega
  have e2:(0:Int)<=(i:Int):=by omega
  have e3:(i:Int)<((qs.map (rp B10)).length:Int):=by rw[List.length_map];omega
  simp only[e1,e2,e3,decide_true,if_true];rw[getD_cast (qs.map (rp B10)) i _ (by rw[List.length_map];exact hi),List.getElem_map];have ht:S.s_l01Give (rp B10 qs[i],())=some (giveN qs[i],()):=by
   unfold S.s_l01Give;dsimp only;rw[if_pos (by have:=List.all_eq_true.1 hc.1 _ (List.mem_map.2 ⟨qs[i],List.getElem_mem hi,rfl⟩);exact this),rv_rp B10_le]
  show Option.bind (S.s_l01Give (rp B10 qs[i],())) _=_;rw[ht,Option.bind_some,List.drop_eq_getElem_cons hi,List.all_cons];dsimp only;cases hf:fitN qs[i]
  ·have hv:giveN qs[i]=(bs [],false):=by unfold giveN;rw[hf];rfl
   rw[hv,if_pos (by decide),Bool.false_and,if_neg (by decide)]
  ·have hv:giveN qs[i]=(⟨(ratTx qs[i]).toArray⟩,true):=by unfold giveN;rw[hf];rfl
   rw[hv];have e4:(((qs.take i).map (fun r:Q3=>(⟨(ratTx r).toArray⟩:ByteArray))).length+1)*16<=140737488355328:=by
    rw[List.length_map,List.length_take];omega
   rw[if_neg (by simp),wr (by omega) (by omega),Bool.true_and,<-hg'];simp only[List.length_cons,List.length_nil,Nat.zero_add];rw[if_pos (decide_eq_true e4),List.take_add_one,List.getElem?_eq_getElem hi,Option.toList_some,List.map_append];rfl) (fun g=>by
  unfold P.s_l01GiveAll_b0;dsimp only;rw[if_neg (by simp),List.take_length,List.drop_length];rfl) (by omega)
 rw[map_rv B10_le,List.length_map];refine key.trans ?_;rw[List.drop_zero]
 by_cases ha:qs.all fitN=true
 ·rw[if_pos ha,if_pos ha];congr 3;refine List.map_congr_left fun r hr=> ?_
  unfold giveN;rw[if_pos (List.all_eq_true.1 ha r hr)]
 ·rw[if_neg ha,if_neg ha]
abbrev s_l03Give.A:=Int×Int×List (List RB)×List (List ByteArray)×List (List ByteArray×Nat)×Unit
abbrev s_l03Give.B:=Option (((List (List ByteArray×Nat)×Nat)×Bool)×Unit)
abbrev P.s_l03Give_b0 (x1:s_l03Give.A) (g2:s_l03Give.A->s_l03Give.B):s_l03Give.B:=
 if decide (x1.1<x1.2.1)then if decide (0<=x1.1)then if decide (x1.1<(x1.2.2.1.length:Int))then(S.s_l01GiveAll (x1.2.2.1.getD x1.1.toNat [],())).bind fun y3=>if !y3.1.2 then some (((([]:List (List ByteArray×Nat)),0),false),())else if decide ((((List.length (hd0 x1.2.2.2.2.1))+(List.length (hd0 [(y3.1.1,y3.1.1.length)])))*24)<=140737488355328)then if dup (List.map (fun(y4:Nat×Nat)=>y4.1) (joinH (List.length (in0 x1.2.2.2.2.1)) (hd0 x1.2.2.2.2.1) (hd0 [(y3.1.1,y3.1.1.length)])))then none else g2 (wrap .i64 (x1.1+1),x1.2.1,x1.2.2.1,x1.2.2.2.1,nrm (joinH (List.length (in0 x1.2.2.2.2.1)) (hd0 x1.2.2.2.2.1) (hd0 [(y3.1.1,y3.1.1.length)])) ((in0 x1.2.2.2.2.1)++[y3.1.1]),())else none else none else none else if dup (List.map (fun(y5:Nat×Nat)=>y5.1) (hd0 x1.2.2.2.2.1))then none else some (((nrm (hd0 x1.2.2.2.2.1) (in0 x1.2.2.2.2.1),List.length (hd0 x1.2.2.2.2.1)),true),())
def P.s_l03Give (k:Nat) (x:List (List RB)×Unit):s_l03Give.B:=
 loopP P.s_l03Give_b0 k (0,(x.1.length:Int),x.1,[],[],())
open Classical in
def S.s_l03Give (x:((List (List RB))×Unit)):(Option (((((List ((List ByteArray)×Nat))×Nat))×Bool)×Unit)):=if ∃M,okM M/\x.1=mp B10 M then some (ownW (giveM (mv B10 x.1)),())else none
theorem S.s_l03Give_ok (x r) (h:S.s_l03Give x=some r):∃k,P.s_l03Give k x=some r:=by
 obtain⟨m,u⟩:=x;unfold S.s_l03Give at h;dsimp only at h;split at h
 case isFalse=>cases h
 rename_i hc;obtain⟨M,hM,rfl⟩:=hc;cases h;rw[mv_mp (by decide)];have hn:=hM.1;refine⟨13,?_⟩;unfold P.s_l03Give;dsimp only;rw[mp_len];have key:=loop_up0 (k:=13) (b:=P.s_l03Give_b0) (n:=M.length) (st:=fun i=>((i:Int),(M.length:Int),mp B10 M,([]:List (List ByteArray)),(M.take i).map (fun r=>((giveL r).1,(giveL r).1.length)),())) (F:=fun i=>some (if((M.drop i).all fun r=>r.all fitN)=true then((M.map (fun r=>((giveL r).1,(giveL r).1.length)),M.length),true)else(([],0),false),())) (fun i g hi hg=>by
  unfold P.s_l03Give_b0;dsimp only at hg ⊢;have e1:(i:Int)<(M.length:Int):=by omega
  have e2:(0:Int)<=(i:Int):=by omega
  have hr:M.getD i []=M[i]:=by rw[List.getD_eq_getElem?_getD,List.getElem?_eq_getElem hi];rfl
  have hmi:=hM.2 M[i] (List.getElem_mem hi);have eg:S.s_l01GiveAll (M[i].map (rp B10),())=some (giveL M[i],()):=by
   unfold S.s_l01GiveAll;dsimp only;rw[if_pos ⟨okM_rok (by decide) hmi.2,by rw[List.length_map];omega⟩,map_rv B10_le]
  simp only[mp_len,Int.toNat_natCast,mp_at hi,hr,e1,e2,decide_true,if_true];rw[eg,Option.bind_some];dsimp only;rw[giveL_fit,List.drop_eq_getElem_cons hi,List.all_cons];cases hf:M[i].all fitN
  ·rw[if_pos (by decide),Bool.false_and,if_neg (by decide)]
  ·have e3:(((M.take i).map (fun r=>((giveL r).1,(giveL r).1.length))).length+1)*24<=140737488355328:=by
    rw[List.length_map,List.length_take];omega
   have e4:= @own_app ByteArray ((M.take i).map (fun r=>((giveL r).1,(giveL r).1.length))) (giveL M[i]).1 (giveL M[i]).1.length;rw[if_neg (by decide),Bool.true_and];simp only[hd0_length,List.length_cons,List.length_nil,Nat.zero_add,e3,e4.1,e4.2,decide_true,if_true,Bool.false_eq_true,if_false];rw[wr (by omega) (by omega)];rw[<-List.take_append_getElem hi,List.map_append]at hg;exact hg) (fun g=>by
  unfold P.s_l03Give_b0;dsimp only;rw[if_neg (by simp),hd0_dup,nrm_hd0,hd0_length,if_neg (by decide),List.take_length,List.length_map,List.drop_length];rfl) (by omega)
 refine Eq.trans ?_ (key.trans ?_)
 ·rfl
 ·rw[List.drop_zero];unfold giveM;split
  ·unfold ownW;dsimp only;rw[List.map_map,List.length_map];rfl
  ·rfl
theorem s_l03Give_eq {M:List (List Q3)} (h:okM M):S.s_l03Give (mp B10 M,())=some (ownW (giveM M),()):=by
 unfold S.s_l03Give;dsimp only;rw[if_pos ⟨M,h,rfl⟩,mv_mp (by decide)]
def P.s_l02Chain (k:Nat) (x:List (List RB)×Unit):Option (((List (List ByteArray×Nat)×Nat)×Bool)×Unit):=
 (S.s_l03Give (x.1,())).bind fun y0=>if !y0.1.2 then some (((([]:List (List ByteArray×Nat)),0),false),())else if dup (List.map (fun(y1:Nat×Nat)=>y1.1) (hd0 y0.1.1.1))then none else some (((nrm (hd0 y0.1.1.1) (in0 y0.1.1.1),y0.1.1.2),true),())
def S.s_l02Chain (x:((List (List RB))×Unit)):(Option ((((List ((List ByteArray)×Nat))×Nat)×Bool)×Unit)):=P.s_l02Chain 0 x
theorem S.s_l02Chain_ok (x r) (h:S.s_l02Chain x=some r):∃k,P.s_l02Chain k x=some r:=⟨0,h⟩
def P.s_l01Int (k:Nat) (x:Int×Unit):Option (RB×Unit):=
 if decide (x.1<0)then(S.s_l01Nat (wrap .i64 (0 - x.1),())).bind fun y0=>some ((true,y0.1,[1]),())else(S.s_l01Nat (x.1,())).bind fun y1=>some ((false,y1.1,[1]),())
def S.s_l01Int (x:(Int×Unit)):(Option (RB×Unit)):=if -9223372036854775807<=x.1/\x.1<=9223372036854775807 then some (rp B10 (wholeQ x.1),())else none
theorem S.s_l01Int_ok (x r) (h:S.s_l01Int x=some r):∃k,P.s_l01Int k x=some r:=by
 obtain⟨n,u⟩:=x;unfold S.s_l01Int at h;dsimp only at h;split at h
 case isFalse=>cases h
 rename_i hc;cases h;refine⟨0,?_⟩;unfold P.s_l01Int S.s_l01Nat rp wholeQ;dsimp only;rw[nd_one B10_le]
 by_cases h0:n<0
 ·rw[if_pos (decide_eq_true h0),wr (by omega) (by omega),if_pos ⟨by omega,by omega⟩,Option.bind_some,decide_eq_true h0,show(0 - n).toNat=n.natAbs by omega]
 ·rw[if_neg (by simpa using h0),if_pos ⟨by omega,by omega⟩,Option.bind_some,decide_eq_false h0,show n.toNat=n.natAbs by omega]
def P.s_l01None (k:Nat) (x:Unit):Option (RB×Unit):=
 (S.s_l01Int (0,())).bind fun y0=>some ((y0.1.1,y0.1.2.1,y0.1.2.2),())
def S.s_l01None (x:Unit):(Option (RB×Unit)):=P.s_l01None 0 x
theorem S.s_l01None_ok (x r) (h:S.s_l01None x=some r):∃k,P.s_l01None k x=some r:=⟨0,h⟩
abbrev s_l02Zeros.A:=Option ((List (List RB×Nat)×Nat)×Unit)
abbrev s_l02Zeros.B:=Int×Int×List (List RB×Nat)×Unit
abbrev P.s_l02Zeros_b4 (g2:s_l02Zeros.B->s_l02Zeros.A) (x5:Int×Int×List RB×List (List RB×Nat)×Int×Unit) (g6:Int×Int×List RB×List (List RB×Nat)×Int×Unit->s_l02Zeros.A):s_l02Zeros.A:=
 (fun(a b e:Int) (c:List RB) (d:List (List RB×Nat))=>if decide (a<b)then(S.s_l01None ()).bind fun y7=>if decide (((c.length+(List.length [(y7.1.1,y7.1.2.1,y7.1.2.2)]))*56)<=140737488355328)then if dup (List.map (fun(y8:Nat×Nat)=>y8.1) (hd0 d))then none else g6 (wrap .i64 (a+1),b,c++[(y7.1.1,y7.1.2.1,y7.1.2.2)],nrm (hd0 d) (in0 d),e,())else none else if decide ((((List.length (hd0 d))+(List.length (hd0 [(c,c.length)])))*24)<=140737488355328)then if dup (List.map (fun(y9:Nat×Nat)=>y9.1) (joinH (List.length (in0 d)) (hd0 d) (hd0 [(c,c.length)])))then none else g2 (wrap .i64 (e+1),b,nrm (joinH (List.length (in0 d)) (hd0 d) (hd0 [(c,c.length)])) ((in0 d)++[c]),())else none) x5.1 x5.2.1 x5.2.2.2.2.1 x5.2.2.1 x5.2.2.2.1
abbrev P.s_l02Zeros_b0 (k:Nat) (x1:s_l02Zeros.B) (g2:s_l02Zeros.B->s_l02Zeros.A):s_l02Zeros.A:=
 if decide (x1.1<x1.2.1)then if dup (List.map (fun(y3:Nat×Nat)=>y3.1) (hd0 x1.2.2.1))then none else loopP (P.s_l02Zeros_b4 g2) k (0,x1.2.1,[],nrm (hd0 x1.2.2.1) (in0 x1.2.2.1),x1.1,())else if dup (List.map (fun(y10:Nat×Nat)=>y10.1) (hd0 x1.2.2.1))then none else some ((nrm (hd0 x1.2.2.1) (in0 x1.2.2.1),List.length (hd0 x1.2.2.1)),())
def P.s_l02Zeros (k:Nat) (x:Int×Unit):s_l02Zeros.A:=
 loopP (P.s_l02Zeros_b0 k) k (0,x.1,nrm (hd0 ([]:List (List RB×Nat))) (in0 ([]:List (List RB×Nat))),())
def nilA (_ _:Nat):Q3:=zeroQ
def S.s_l02Zeros (x:(Int×Unit)):(Option (((List ((List RB)×Nat))×Nat)×Unit)):=if 0<=x.1/\x.1<=12 then some ((om B10 x.1.toNat x.1.toNat nilA,x.1.toNat),())else none
theorem S.s_l02Zeros_ok (x r) (h:S.s_l02Zeros x=some r):∃k,P.s_l02Zeros k x=some r:=by
 obtain⟨z,u⟩:=x;unfold S.s_l02Zeros at h;dsimp only at h;split at h
 case isFalse=>cases h
 rename_i hc;obtain⟨n,rfl⟩:=Int.eq_ofNat_of_zero_le hc.1;have hn:n<=12:=by omega
 rw[Int.toNat_natCast]at h;cases h;refine⟨13,?_⟩;unfold P.s_l02Zeros;dsimp only;have o2:S.s_l01None ()=some (rp B10 zeroQ,()):=by rfl
 have e4:∀q:Q3,((rp B10 q).1,(rp B10 q).2.1,(rp B10 q).2.2)=rp B10 q:=fun _=>rfl
 exact loop_up0 (k:=13) (b:=P.s_l02Zeros_b0 13) (n:=n) (st:=fun i=>((i:Int),(n:Int),om B10 i n nilA,())) (F:=fun _=>some ((om B10 n n nilA,n),())) (fun i g hi hg=>by
  unfold P.s_l02Zeros_b0;dsimp only at hg ⊢;rw[if_pos (decide_eq_true (by omega)),hd0_dup,if_neg (by decide),nrm_hd0,<-hg];exact loop_up0 (k:=13) (b:=P.s_l02Zeros_b4 g) (n:=n) (st:=fun j=>((j:Int),(n:Int),(tab j (nilA i)).map (rp B10),om B10 i n nilA,(i:Int),())) (F:=fun _=>g (((i+1:Nat):Int),(n:Int),om B10 (i+1) n nilA,())) (fun j g' hj hg'=>by
   unfold P.s_l02Zeros_b4;dsimp only at hg' ⊢;have e3:(j+1)*56<=140737488355328:=by omega
   have hv:nilA i j=zeroQ:=rfl;rw[<-tabm_snoc,hv]at hg';rw[if_pos (decide_eq_true (by omega)),o2,Option.bind_some];dsimp only;simp only[e4,List.length_map,tab_len,List.length_cons,List.length_nil,Nat.zero_add,e3,decide_true,if_true,hd0_dup,Bool.false_eq_true,if_false,nrm_hd0];rw[wr (by omega) (by omega)];exact hg') (fun g'=>by
   unfold P.s_l02Zeros_b4;dsimp only;have e3:(i+1)*24<=140737488355328:=by omega
   have e2:= @om_app B10 i n nilA;rw[if_neg (by simp),wr (by omega) (by omega)];simp only[hd0_length,om_len,List.length_map,tab_len,List.length_cons,List.length_nil,Nat.zero_add,e3,e2.1,e2.2,decide_true,if_true,Bool.false_eq_true,if_false];rfl) (by omega)) (fun g=>by
  unfold P.s_l02Zeros_b0;dsimp only;rw[if_neg (by simp),hd0_dup,if_neg (by decide),nrm_hd0,hd0_length,om_len]) (by omega)
def P.s_l02Rates (k:Nat) (x:(List RB×List RB)×Int×Unit):Option ((RB×Bool×List Int×List Int)×Unit):=
 (S.s_l01None ()).bind fun y0=>(S.s_l01None ()).bind fun y1=>if decide (x.2.1<(x.1.1.length:Int))then if decide (0<=x.2.1)then if decide (x.2.1<(x.1.1.length:Int))then if decide (x.2.1>0)then if decide (0<=(wrap .i64 (x.2.1 - 1)))then if decide ((wrap .i64 (x.2.1 - 1))<(x.1.2.length:Int))then some ((((x.1.1.getD x.2.1.toNat (false,[],[])).1,(x.1.1.getD x.2.1.toNat (false,[],[])).2.1,(x.1.1.getD x.2.1.toNat (false,[],[])).2.2),(x.1.2.getD (Int.toNat (wrap .i64 (x.2.1 - 1))) (false,[],[])).1,(x.1.2.getD (Int.toNat (wrap .i64 (x.2.1 - 1))) (false,[],[])).2.1,(x.1.2.getD (Int.toNat (wrap .i64 (x.2.1 - 1))) (false,[],[])).2.2),())else none else none else some ((((x.1.1.getD x.2.1.toNat (false,[],[])).1,(x.1.1.getD x.2.1.toNat (false,[],[])).2.1,(x.1.1.getD x.2.1.toNat (false,[],[])).2.2),y1.1.1,y1.1.2.1,y1.1.2.2),())else none else none else if decide (x.2.1>0)then if decide (0<=(wrap .i64 (x.2.1 - 1)))then if decide ((wrap .i64 (x.2.1 - 1))<(x.1.2.length:Int))then some (((y0.1.1,y0.1.2.1,y0.1.2.2),(x.1.2.getD (Int.toNat (wrap .i64 (x.2.1 - 1))) (false,[],[])).1,(x.1.2.getD (Int.toNat (wrap .i64 (x.2.1 - 1))) (false,[],[])).2.1,(x.1.2.getD (Int.toNat (wrap .i64 (x.2.1 - 1))) (false,[],[])).2.2),())else none else none else some (((y0.1.1,y0.1.2.1,y0.1.2.2),y1.1.1,y1.1.2.1,y1.1.2.2),())
def S.s_l02Rates (x:(((List RB)×(List RB))×(Int×Unit))):(Option ((RB×RB)×Unit)):=P.s_l02Rates 0 x
theorem S.s_l02Rates_ok (x r) (h:S.s_l02Rates x=some r):∃k,P.s_l02Rates k x=some r:=⟨0,h⟩
abbrev s_JumpChain.A:=Int×List (List RB×Nat)×(List RB×List RB)×List (List ByteArray)×Unit
abbrev s_JumpChain.B:=Option (((List (List ByteArray×Nat)×Nat)×Bool)×Unit)
abbrev P.s_JumpChain_b3 (x4:s_JumpChain.A) (g5:s_JumpChain.A->s_JumpChain.B):s_JumpChain.B:=
 (fun(a:Int) (b:List (List RB×Nat)) (c:(List RB×List RB)) (d:List (List ByteArray))=>if decide (a<(List.length (hd0 b):Int))then(S.s_l02Rates ((c.1,c.2),a,())).bind fun y6=>(S.s_l01Sum ((y6.1.1.1,y6.1.1.2.1,y6.1.1.2.2),(y6.1.2.1,y6.1.2.2.1,y6.1.2.2.2),())).bind fun y7=>if decide ((wrap .i64 (a+1))<(List.length (hd0 b):Int))then if decide (0<=a)then if decide (a<(List.length (hd0 b):Int))then(S.s_l01Over ((y6.1.1.1,y6.1.1.2.1,y6.1.1.2.2),(y7.1.1,y7.1.2.1,y7.1.2.2),())).bind fun y8=>if decide (0<=(wrap .i64 (a+1)))then if decide ((wrap .i64 (a+1))<(((List.getD (hd0 b) (0+a.toNat) (0,0)).2:Nat):Int))then if decide (a>0)then if decide (0<=a)then if decide (a<(List.length (hd0 b):Int))then(S.s_l01Over ((y6.1.2.1,y6.1.2.2.1,y6.1.2.2.2),(y7.1.1,y7.1.2.1,y7.1.2.2),())).bind fun y9=>if decide (0<=(wrap .i64 (a - 1)))then if decide ((wrap .i64 (a - 1))<(((List.getD (hd0 b) (0+a.toNat) (0,0)).2:Nat):Int))then if dup (List.map (fun(y10:Nat×Nat)=>y10.1) (hd0 b))then none else g5 (wrap .i64 (a+1),nrm (hd0 b) (List.set (List.set (in0 b) (List.getD (hd0 b) (0+a.toNat) (0,0)).1 (List.set (List.getD (in0 b) (List.getD (hd0 b) (0+a.toNat) (0,0)).1 []) (0+(Int.toNat (wrap .i64 (a+1)))) (y8.1.1,y8.1.2.1,y8.1.2.2))) (List.getD (hd0 b) (0+a.toNat) (0,0)).1 (List.set (List.getD (List.set (in0 b) (List.getD (hd0 b) (0+a.toNat) (0,0)).1 (List.set (List.getD (in0 b) (List.getD (hd0 b) (0+a.toNat) (0,0)).1 []) (0+(Int.toNat (wrap .i64 (a+1)))) (y8.1.1,y8.1.2.1,y8.1.2.2))) (List.getD (hd0 b) (0+a.toNat) (0,0)).1 []) (0+(Int.toNat (wrap .i64 (a - 1)))) (y9.1.1,y9.1.2.1,y9.1.2.2))),(c.1,c.2),d,())else none else none else none else none else if dup (List.map (fun(y11:Nat×Nat)=>y11.1) (hd0 b))then none else g5 (wrap .i64 (a+1),nrm (hd0 b) (List.set (in0 b) (List.getD (hd0 b) (0+a.toNat) (0,0)).1 (List.set (List.getD (in0 b) (List.getD (hd0 b) (0+a.toNat) (0,0)).1 []) (0+(Int.toNat (wrap .i64 (a+1)))) (y8.1.1,y8.1.2.1,y8.1.2.2))),(c.1,c.2),d,())else none else none else none else none else if decide (a>0)then if decide (0<=a)then if decide (a<(List.length (hd0 b):Int))then(S.s_l01Over ((y6.1.2.1,y6.1.2.2.1,y6.1.2.2.2),(y7.1.1,y7.1.2.1,y7.1.2.2),())).bind fun y12=>if decide (0<=(wrap .i64 (a - 1)))then if decide ((wrap .i64 (a - 1))<(((List.getD (hd0 b) (0+a.toNat) (0,0)).2:Nat):Int))then if dup (List.map (fun(y13:Nat×Nat)=>y13.1) (hd0 b))then none else g5 (wrap .i64 (a+1),nrm (hd0 b) (List.set (in0 b) (List.getD (hd0 b) (0+a.toNat) (0,0)).1 (List.set (List.getD (in0 b) (List.getD (hd0 b) (0+a.toNat) (0,0)).1 []) (0+(Int.toNat (wrap .i64 (a - 1)))) (y12.1.1,y12.1.2.1,y12.1.2.2))),(c.1,c.2),d,())else none else none else none else none else if dup (List.map (fun(y14:Nat×Nat)=>y14.1) (hd0 b))then none else g5 (wrap .i64 (a+1),nrm (hd0 b) (in0 b),(c.1,c.2),d,())else(S.s_l02Chain (List.map (fun(y15:List RB×Nat)=>List.map (fun(y16:Bool×List Int×List Int)=>(y16.1,List.map (fun(y17:Int)=>y17) y16.2.1,List.map (fun(y18:Int)=>y18) y16.2.2)) (List.take y15.2 y15.1)) (nrm (hd0 b) (in0 b)),())).bind fun y19=>if dup (List.map (fun(y20:Nat×Nat)=>y20.1) (hd0 y19.1.1.1))then none else some (((nrm (hd0 y19.1.1.1) (in0 y19.1.1.1),y19.1.1.2),y19.1.2),())) x4.1 x4.2.1 x4.2.2.1 x4.2.2.2.1
def P.s_JumpChain (k:Nat) (x:(List ByteArray×List ByteArray)×Unit):s_JumpChain.B:=
 (S.s_l02Parse ((x.1.1,x.1.2),())).bind fun y0=>if !y0.1.2 then some (((([]:List (List ByteArray×Nat)),0),false),())else if decide ((y0.1.1.1.length:Int)>=12)then some (((([]:List (List ByteArray×Nat)),0),false),())else(S.s_l02Zeros (wrap .i64 ((y0.1.1.1.length:Int)+1),())).bind fun y1=>if decide (y1.1.2=(List.length (hd0 y1.1.1)))then if dup (List.map (fun(y2:Nat×Nat)=>y2.1) (hd0 y1.1.1))then none else loopP P.s_JumpChain_b3 k (0,nrm (hd0 y1.1.1) (in0 y1.1.1),(y0.1.1.1,y0.1.1.2),[],())else none
theorem sjc_rates {us ds:List Q3} (hl:us.length=ds.length) (h12:us.length<12) {n:Nat} (hn:n<=us.length):S.s_l02Rates ((us.map (rp B10),ds.map (rp B10)),((n:Int),()))=some ((rp B10 (upQ (fQ us) us.length n),rp B10 (dnQ (fQ ds) n)),()):=by
 have z:S.s_l01None ()=some (rp B10 zeroQ,()):=by rfl
 have e4:∀q:Q3,((rp B10 q).1,(rp B10 q).2.1,(rp B10 q).2.2)=rp B10 q:=fun _=>rfl
 have e0:(0:Int)<=(n:Int):=by omega
 have ge:∀(l:List Q3) (i:Nat),i<l.length->(l.map (rp B10)).getD i (false,(([]:List Int),([]:List Int)))=rp B10 (fQ l i):=fun l i hi=>by
  unfold fQ;rw[List.getD_eq_getElem?_getD,List.getElem?_map,List.getElem?_eq_getElem hi,List.getD_eq_getElem?_getD,List.getElem?_eq_getElem hi];rfl
 unfold S.s_l02Rates P.s_l02Rates upQ dnQ;rw[z];dsimp only[Option.bind_some]
 by_cases cb:0<n
 ·have hw2:wrap .i64 ((n:Int) - 1)=((n - 1:Nat):Int):=by rw[wr (by omega) (by omega)];omega
  have e1:(n:Int)>0:=by omega
  have e2:(0:Int)<=((n - 1:Nat):Int):=by omega
  have e3:((n - 1:Nat):Int)<(ds.length:Int):=by omega
  have e5:¬n=0:=by omega
  have g2:=ge ds (n - 1) (by omega)
  by_cases ca:n<us.length
  ·have e6:(n:Int)<(us.length:Int):=by omega
   have g1:=ge us n ca;simp only[hw2,List.length_map,Int.toNat_natCast,e0,e1,e2,e3,e5,e6,ca,g1,g2,e4,decide_true,if_true,if_false]
  ·have e6:¬(n:Int)<(us.length:Int):=by omega
   simp only[hw2,List.length_map,Int.toNat_natCast,e0,e1,e2,e3,e5,e6,ca,g2,e4,decide_true,decide_false,Bool.false_eq_true,if_true,if_false]
 ·have e1:¬(n:Int)>0:=by omega
  have e5:n=0:=by omega
  by_cases ca:n<us.length
  ·have e6:(n:Int)<(us.length:Int):=by omega
   have g1:=ge us n ca;simp only[List.length_map,Int.toNat_natCast,e0,e1,e6,ca,g1,e4,decide_true,decide_false,Bool.false_eq_true,if_true,if_false];rw[if_pos e5]
  ·have e6:¬(n:Int)<(us.length:Int):=by omega
   simp only[List.length_map,Int.toNat_natCast,e0,e1,e6,ca,e4,decide_true,decide_false,Bool.false_eq_true,if_true,if_false];rw[if_pos e5]
theorem sjc_chain {M:List (List Q3)} (h:okM M):S.s_l02Chain (mp B10 M,())=some (ownW (giveM M),()):=by
 unfold S.s_l02Chain P.s_l02Chain;rw[s_l03Give_eq h,Option.bind_some];dsimp only;unfold giveM;split
 ·unfold ownW;dsimp only;rw[if_neg (by decide),hd0_dup,if_neg (by decide),nrm_hd0]
 ·rfl
def sjA (us ds:Nat->Q3) (m a:Nat):Nat->Nat->Q3:=fun x y=>if x<a then jA us ds m x y else zeroQ
theorem sjA_step {us ds:List Q3} (hu:rates us) (hd:rates ds) (hl:us.length=ds.length) (h0:0<us.length) (h12:us.length<12) {a:Nat} (ha:a<=us.length) (w v:Nat->Nat->Q3)
  (hw:w=if a<us.length then updM (sjA (fQ us) (fQ ds) us.length a) a (a+1) (overQ (upQ (fQ us) us.length a) (addQ (upQ (fQ us) us.length a) (dnQ (fQ ds) a)))else sjA (fQ us) (fQ ds) us.length a)
  (hv:v=if 0<a then updM w a (a - 1) (overQ (dnQ (fQ ds) a) (addQ (upQ (fQ us) us.length a) (dnQ (fQ ds) a)))else w):om B10 (us.length+1) (us.length+1) v=om B10 (us.length+1) (us.length+1) (sjA (fQ us) (fQ ds) us.length (a+1)):=by
 apply om_congr;intro i hi j hj;have e:=jA_at hu hd hl h0 h12 (n:=a) (k:=j) ha (by omega);have hW:w i j=if i=a/\j=a+1 then overQ (upQ (fQ us) us.length a) (addQ (upQ (fQ us) us.length a) (dnQ (fQ ds) a))else sjA (fQ us) (fQ ds) us.length a i j:=by
  rw[hw];split
  ·rfl
  ·rw[if_neg (by omega)]
 have hV:v i j=if i=a/\a=j+1 then overQ (dnQ (fQ ds) a) (addQ (upQ (fQ us) us.length a) (dnQ (fQ ds) a))else w i j:=by
  rw[hv];split
  ·unfold updM
   by_cases c:i=a/\a=j+1
   ·rw[if_pos c,if_pos (by omega)]
   ·rw[if_neg c,if_neg (by omega)]
  ·rw[if_neg (by omega)]
 rw[hV,hW];unfold sjA
 by_cases c:i=a
 ·subst c;rw[if_pos (show i<i+1 by omega),e]
  by_cases c1:j=i+1
  ·rw[if_neg (by omega),if_pos ⟨rfl,c1⟩,if_pos c1]
  ·rw[if_neg c1]
   by_cases c2:i=j+1
   ·rw[if_pos ⟨rfl,c2⟩,if_pos c2]
   ·rw[if_neg (by omega),if_neg (by omega),if_neg (by omega),if_neg c2]
 ·rw[if_neg (by omega),if_neg (by omega)]
  by_cases c1:i<a
  ·rw[if_pos c1,if_pos (by omega)]
  ·rw[if_neg c1,if_neg (by omega)]
open Classical in
def S.s_JumpChain (x:(((List ByteArray)×(List ByteArray))×Unit)):(Option (((((List ((List ByteArray)×Nat))×Nat))×Bool)×Unit)):=if okT x.1.1=true/\okT x.1.2=true then some (jmT x.1.1 x.1.2,())else none
theorem S.s_JumpChain_ok (x r) (h:S.s_JumpChain x=some r):∃k,P.s_JumpChain k x=some r:=by
 obtain⟨⟨tu,td⟩,u⟩:=x;unfold S.s_JumpChain at h;dsimp only at h;split at h
 case isFalse=>cases h
 rename_i hc;cases h;refine⟨13,?_⟩;have hp:S.s_l02Parse ((tu,td),())=some ((((lineQ tu td).1.1.map (rp B10),(lineQ tu td).1.2.map (rp B10)),(lineQ tu td).2),()):=by
  unfold S.s_l02Parse;exact if_pos hc
 unfold P.s_JumpChain jmT jmB;dsimp only;rw[hp,Option.bind_some];dsimp only;cases hL:(lineQ tu td).2
 ·rw[if_pos (by decide),Bool.false_and,if_neg (by decide)]
 obtain⟨l1,l2,l3,l4,l5,l6,l7⟩:=lineQ_ok hL;have hu:rates (lineQ tu td).1.1:=by rw[l1];exact l2
 have hd:rates (lineQ tu td).1.2:=by rw[l1];exact l3
 have hl:(lineQ tu td).1.1.length=(lineQ tu td).1.2.length:=by rw[l1];show(rdAll tu).1.length=(rdAll td).1.length;omega
 have h0:0<(lineQ tu td).1.1.length:=by rw[l1];show 0<(rdAll tu).1.length;omega
 have h20:(lineQ tu td).1.1.length<=20:=by rw[l1];show(rdAll tu).1.length<=20;omega
 clear l1 l2 l3 l4 l5 l6 l7;generalize (lineQ tu td).1.1=us at*;generalize (lineQ tu td).1.2=ds at*;rw[if_neg (by decide),Bool.true_and,List.length_map]
 by_cases h12:us.length<12
 case neg=>
  rw[if_pos (decide_eq_true (show(us.length:Int)>=12 by omega)),if_neg (by simpa using h12)]
 have hw:wrap .i64 ((us.length:Int)+1)=((us.length+1:Nat):Int):=by rw[wr (by omega) (by omega)];omega
 have hz:S.s_l02Zeros (((us.length+1:Nat):Int),())=some ((om B10 (us.length+1) (us.length+1) (sjA (fQ us) (fQ ds) us.length 0),us.length+1),()):=by
  unfold S.s_l02Zeros;dsimp only;rw[if_pos ⟨by omega,by omega⟩,Int.toNat_natCast];have:om B10 (us.length+1) (us.length+1) nilA=om B10 (us.length+1) (us.length+1) (sjA (fQ us) (fQ ds) us.length 0):=om_congr fun i _ j _=>by
   unfold nilA sjA;rw[if_neg (by omega)]
  rw[this]
 rw[if_neg (by simpa using(show ¬(us.length:Int)>=12 by omega)),hw,hz,Option.bind_some,if_pos (decide_eq_true h12)];dsimp only;rw[hd0_length,om_len,if_pos (by simp),hd0_dup,if_neg (by decide),nrm_hd0];exact loop_up0 (k:=13) (b:=P.s_JumpChain_b3) (n:=us.length+1) (st:=fun a=>((a:Int),om B10 (us.length+1) (us.length+1) (sjA (fQ us) (fQ ds) us.length a),(us.map (rp B10),ds.map (rp B10)),[],())) (F:=fun _=>some (ownW (giveM (mat (us.length+1) (jA (fQ us) (fQ ds) us.length))),())) (fun a g ha hg=>by
  unfold P.s_JumpChain_b3;dsimp only at hg ⊢;have k3:=jm_pos hu hd hl h0 h12 (n:=a) (by omega);rw[jm_sum hu hd hl h12 (n:=a) (by omega)]at k3;have ku:=up_ok hu a;have kd:=dn_ok hd (n:=a) (by omega);have er:=sjc_rates hl h12 (n:=a) (by omega);have es:=rs_add ku.1 ku.2 kd.1 kd.2 (by decide) (by decide);have ks:low (addQ (upQ (fQ us) us.length a) (dnQ (fQ ds) a)):=addQ_low _ _ ku.1 kd.1;have kb:below 401 (addQ (upQ (fQ us) us.length a) (dnQ (fQ ds) a)):=addQ_below ku.2 kd.2;have eu:=rs_over ku.1 ku.2 ks kb k3 (by decide) (by decide);have ed:=rs_over kd.1 kd.2 ks kb k3 (by decide) (by decide);have st:=sjA_step hu hd hl h0 h12 (a:=a) (by omega) _ _ rfl rfl;generalize upQ (fQ us) us.length a=up at*;generalize dnQ (fQ ds) a=dn at*;generalize sjA (fQ us) (fQ ds) us.length a=f at*;have e4:∀q:Q3,((rp B10 q).1,(rp B10 q).2.1,(rp B10 q).2.2)=rp B10 q:=fun _=>rfl
  have e1:(a:Int)<((us.length+1:Nat):Int):=by omega
  have e2:(0:Int)<=(a:Int):=by omega
  have e3:(0:Int)<=((a+1:Nat):Int):=by omega
  have hw1:wrap .i64 ((a:Int)+1)=((a+1:Nat):Int):=by rw[wr (by omega) (by omega)];omega
  have q1:=om_in_write (B:=B10) (c:=us.length+1) (a:=f) (i:=a) (j:=a+1) ha (overQ up (addQ up dn));have q1':=om_write (B:=B10) (c:=us.length+1) (a:=f) (i:=a) (j:=a+1) ha (overQ up (addQ up dn));rw[hw1]
  by_cases ca:a<us.length
  ·have e5:((a+1:Nat):Int)<((us.length+1:Nat):Int):=by omega
   rw[if_pos ca]at st
   by_cases cb:0<a
   ·have hw2:wrap .i64 ((a:Int) - 1)=((a - 1:Nat):Int):=by rw[wr (by omega) (by omega)];omega
    have e6:(a:Int)>0:=by omega
    have e7:(0:Int)<=((a - 1:Nat):Int):=by omega
    have e8:((a - 1:Nat):Int)<((us.length+1:Nat):Int):=by omega
    rw[if_pos cb]at st;have q2:=om_write (B:=B10) (c:=us.length+1) (a:=updM f a (a+1) (overQ up (addQ up dn))) (i:=a) (j:=a - 1) ha (overQ dn (addQ up dn));simp only[hw2,Int.toNat_natCast,Nat.zero_add,hd0_length,om_len,er,es,eu,ed,om_hd ha,om_in ha,e1,e2,e3,e5,e6,e7,e8,e4,decide_true,if_true,Option.bind_some,hd0_dup,Bool.false_eq_true,if_false,q1,om_hd_same B10 (us.length+1) (us.length+1) f (updM f a (a+1) (overQ up (addQ up dn))),q2,st];exact hg
   ·have e6:¬(a:Int)>0:=by omega
    rw[if_neg cb]at st;simp only[Int.toNat_natCast,Nat.zero_add,hd0_length,om_len,er,es,eu,om_hd ha,om_in ha,e1,e2,e3,e5,e6,e4,decide_true,decide_false,if_true,Option.bind_some,hd0_dup,Bool.false_eq_true,if_false,q1',st];exact hg
  ·have e5:¬((a+1:Nat):Int)<((us.length+1:Nat):Int):=by omega
   have cb:0<a:=by omega
   rw[if_neg ca]at st;have hw2:wrap .i64 ((a:Int) - 1)=((a - 1:Nat):Int):=by rw[wr (by omega) (by omega)];omega
   have e6:(a:Int)>0:=by omega
   have e7:(0:Int)<=((a - 1:Nat):Int):=by omega
   have e8:((a - 1:Nat):Int)<((us.length+1:Nat):Int):=by omega
   rw[if_pos cb]at st;have q2:=om_write (B:=B10) (c:=us.length+1) (a:=f) (i:=a) (j:=a - 1) ha (overQ dn (addQ up dn));simp only[hw2,Int.toNat_natCast,Nat.zero_add,hd0_length,om_len,er,es,ed,om_hd ha,om_in ha,e1,e2,e5,e6,e7,e8,e4,decide_true,decide_false,if_true,Option.bind_some,hd0_dup,Bool.false_eq_true,if_false,q2,st];exact hg) (fun g=>by
  unfold P.s_JumpChain_b3;dsimp only;have hM:om B10 (us.length+1) (us.length+1) (sjA (fQ us) (fQ ds) us.length (us.length+1))=om B10 (us.length+1) (us.length+1) (jA (fQ us) (fQ ds) us.length):=om_congr fun i hi j _=>by unfold sjA;rw[if_pos hi]
  have hok:okM (mat (us.length+1) (jA (fQ us) (fQ ds) us.length)):=jm_okM hu hd hl h0 h12;rw[hd0_length,om_len,if_neg (by simp),hM,nrm_hd0,om_view,sjc_chain hok,Option.bind_some];dsimp only;rw[hd0_dup,if_neg (by decide),nrm_hd0]) (by omega)
def S.strings_Cut (x:(ByteArray×(ByteArray×Unit))):(Option ((ByteArray×(ByteArray×Bool))×Unit)):=if x.1.size<4294967281 then some ((⟨(Go.Lib.cut x.1.data.toList x.2.1.data.toList).1.toArray⟩,(⟨(Go.Lib.cut x.1.data.toList x.2.1.data.toList).2.1.toArray⟩,(Go.Lib.cut x.1.data.toList x.2.1.data.toList).2.2)),())else none
def S.strings_CutPrefix (x:(ByteArray×(ByteArray×Unit))):(Option ((ByteArray×Bool)×Unit)):=some ((⟨(Go.Lib.trimPrefix x.1.data.toList x.2.1.data.toList).toArray⟩,Go.Lib.hasPrefix x.1.data.toList x.2.1.data.toList),())
abbrev P.i_nat_trim_b0 (x1:List Int×Unit) (g2:List Int×Unit->Option (List Int×Unit)):Option (List Int×Unit):=
 if decide ((x1.1.length:Int)>0)then if decide (0<=(wrap .i64 ((x1.1.length:Int) - 1)))then if decide ((wrap .i64 ((x1.1.length:Int) - 1))<(x1.1.length:Int))then if(x1.1.getD (Int.toNat (wrap .i64 ((x1.1.length:Int) - 1))) 0)==0 then if decide (0<=(wrap .i64 ((x1.1.length:Int) - 1)))then if decide ((wrap .i64 ((x1.1.length:Int) - 1))<=(x1.1.length:Int))then if decide (0<=(wrap .i64 ((x1.1.length:Int) - 1)))then g2 (seen x1.1 0 ((Int.toNat (wrap .i64 ((x1.1.length:Int) - 1))) - 0),())else none else none else none else some (x1.1,())else none else none else some (x1.1,())
def P.i_nat_trim (k:Nat) (x:List Int×Unit):Option (List Int×Unit):=
 loopP P.i_nat_trim_b0 k (x.1,())
theorem trim_loop (n:Nat):∀(xs:List Int) (k:Nat),xs.length=n->n<k->n<=1000000000000->dig B32 xs=true->loopP (X:=((List Int)×Unit)) (R:=((List Int)×Unit)) P.i_nat_trim_b0 k (xs,())=some (nd B32 (dval B32 xs),()):=by
 induction n with
 |zero=>
  intro xs k hx hk _ _;have:xs=[]:=List.eq_nil_of_length_eq_zero hx;subst this;obtain⟨k,rfl⟩:∃j,k=j+1:=⟨k - 1,by omega⟩
  rw[loopP_succ];unfold P.i_nat_trim_b0;rw[if_neg (by simp)];rw[show dval B32 []=0 from rfl,nd_zero B32_le]
 |succ n ih=>
  intro xs k hx hk hn hd;obtain⟨k,rfl⟩:∃j,k=j+1:=⟨k - 1,by omega⟩
  rw[loopP_succ];unfold P.i_nat_trim_b0;dsimp only;have e0:IntKind.wrap .i64 ((xs.length:Int) - 1)=(n:Int):=by rw[wr (by omega) (by omega)];omega
  have e1:(xs.length:Int)>0:=by omega
  have e2:(0:Int)<=(n:Int):=by omega
  have e3:(n:Int)<(xs.length:Int):=by omega
  have e4:(n:Int)<=(xs.length:Int):=by omega
  rw[e0];simp only[e1,e2,e3,e4,decide_true,if_true];rw[getD_cast xs n _ (by omega)];have hs:=take_snoc xs n hx;have hdt:dig B32 (xs.take n++[xs[n]])=true:=by rw[<-hs];exact hd
  by_cases hz:xs[n]=0
  ·rw[if_pos (by simp [hz])];have e5:seen xs 0 ((n:Int).toNat - 0)=xs.take n:=by simp [seen]
   rw[e5];have hdt':=hdt;rw[dig_append,Bool.and_eq_true]at hdt';rw[ih (xs.take n) k (by simp;omega) (by omega) (by omega) hdt'.1];have:dval B32 xs=dval B32 (xs.take n):=by
    conv=>lhs;rw[hs,hz]
    exact dval_snoc_zero _
   rw[this]
  ·rw[if_neg (by simp [hz])];have:=nd_snoc B32_le (xs.take n) xs[n] hdt hz;rw[<-hs]at this;rw[this]
def S.i_nat_trim (x:((List Int)×Unit)):(Option ((List Int)×Unit)):=if dig B32 x.1=true/\x.1.length<=1000000000000 then some (nd B32 (dval B32 x.1),())else none
theorem S.i_nat_trim_ok (x r) (h:S.i_nat_trim x=some r):∃k,P.i_nat_trim k x=some r:=by
 obtain⟨xs,u⟩:=x;unfold S.i_nat_trim at h;dsimp only at h;split at h
 case isFalse=>cases h
 rename_i hc;cases h;exact⟨xs.length+1,trim_loop xs.length xs _ rfl (by omega) hc.2 hc.1⟩
theorem trim_i (xs:List Int) (h:dig B32 xs=true) (hl:xs.length<=1000000000000):S.i_nat_trim (xs,())=some (nd B32 (dval B32 xs),()):=by
 unfold S.i_nat_trim;dsimp only;rw[if_pos ⟨h,hl⟩]
def P.i_natOf (k:Nat) (x:Int×Unit):Option (List Int×Unit):=
 (S.i_nat_trim ((wrap .u32 x.1)::[wrap .u32 (Int.fdiv x.1 4294967296)],())).bind fun y0=>some (y0.1,())
def S.i_natOf (x:(Int×Unit)):(Option ((List Int)×Unit)):=if 0<=x.1/\x.1<18446744073709551616 then some (nd B32 x.1.toNat,())else none
theorem S.i_natOf_ok (x r) (h:S.i_natOf x=some r):∃k,P.i_natOf k x=some r:=by
 obtain⟨n,u⟩:=x;unfold S.i_natOf at h;dsimp only at h;split at h
 case isFalse=>cases h
 rename_i hc;cases h;refine⟨0,?_⟩;unfold P.i_natOf;dsimp only;have hf:Int.fdiv n 4294967296=n/4294967296:=Int.fdiv_eq_ediv_of_nonneg _ (by omega);rw[hf,u32_mod n hc.1,u32_mod _ (by omega)];have hd:dig B32 [n%4294967296,n/4294967296%4294967296]=true:=by
  rw[dig_cons,dig_cons];refine⟨⟨by omega,?_⟩,⟨by omega,?_⟩,rfl⟩
  ·show _<(4294967296:Int);omega
  ·show _<(4294967296:Int);omega
 rw[trim_i _ hd (by simp),Option.bind_some];have:dval B32 [n%4294967296,n/4294967296%4294967296]=n.toNat:=by
  simp only[dval];show(n%4294967296).toNat+4294967296*((n/4294967296%4294967296).toNat+4294967296*0)=n.toNat;omega
 rw[this]
abbrev P.i_nat_cmp_b0 (x1:Int×List Int×List Int×Unit) (g2:Int×List Int×List Int×Unit->Option (Int×Unit)):Option (Int×Unit):=
 (fun(a:Int) (b c:List Int)=>if decide (a>=0)then if decide (0<=a)then if decide (a<(b.length:Int))then if decide (0<=a)then if decide (a<(c.length:Int))then if(b.getD a.toNat 0) != (c.getD a.toNat 0)then if decide (0<=a)then if decide (a<(b.length:Int))then if decide (0<=a)then if decide (a<(c.length:Int))then if decide ((b.getD a.toNat 0)<(c.getD a.toNat 0))then some ((-1:Int),())else some (1,())else none else none else none else none else g2 (wrap .i64 (a - 1),b,c,())else none else none else none else none else some (0,())) x1.1 x1.2.1 x1.2.2.1
def P.i_nat_cmp (k:Nat) (x:List Int×List Int×Unit):Option (Int×Unit):=
 if(x.1.length:Int) != (x.2.1.length:Int)then if decide ((x.1.length:Int)<(x.2.1.length:Int))then some ((-1:Int),())else some (1,())else loopP P.i_nat_cmp_b0 k (wrap .i64 ((x.1.length:Int) - 1),x.1,x.2.1,())
def S.i_nat_cmp (x:((List Int)×((List Int)×Unit))):(Option (Int×Unit)):=if canon B32 x.1=true/\canon B32 x.2.1=true/\x.1.length<=1000000000000 then some (cmpN (dval B32 x.1) (dval B32 x.2.1),())else none
theorem S.i_nat_cmp_ok (x r) (h:S.i_nat_cmp x=some r):∃k,P.i_nat_cmp k x=some r:=by
 obtain⟨xs,ys,u⟩:=x;unfold S.i_nat_cmp at h;dsimp only at h;split at h
 case isFalse=>cases h
 rename_i hc;obtain⟨cx,cy,hl⟩:=hc;cases h;refine⟨xs.length+1,?_⟩;unfold P.i_nat_cmp;dsimp only
 by_cases hn:xs.length=ys.length
 ·rw[if_neg (by simp [hn]),wr (by omega) (by omega)];have key:=loop_up0 (k:=xs.length+1) (b:=P.i_nat_cmp_b0) (n:=xs.length) (st:=fun j=>((xs.length:Int) - 1 - (j:Int),xs,ys,())) (F:=fun j=>some (cmpN (dval B32 (xs.take (xs.length - j))) (dval B32 (ys.take (xs.length - j))),())) (fun j g hj hg=>by
   unfold P.i_nat_cmp_b0;dsimp only at hg ⊢;have e1:(xs.length:Int) - 1 - (j:Int)>=0:=by omega
   have e3:(0:Int)<=(xs.length:Int) - 1 - (j:Int):=by omega
   have e4:(xs.length:Int) - 1 - (j:Int)<(xs.length:Int):=by omega
   have e4':(xs.length:Int) - 1 - (j:Int)<(ys.length:Int):=by omega
   simp only[e1,e4,e4',decide_true,if_true];have hi:xs.length - (j+1)<xs.length:=by omega
   have hi':xs.length - (j+1)<ys.length:=by omega
   have e5:(xs.length:Int) - 1 - (j:Int)=((xs.length - (j+1):Nat):Int):=by omega
   have e6:xs.length - j=(xs.length - (j+1))+1:=by omega
   rw[e5,getD_cast xs _ _ hi,getD_cast ys _ _ hi',e6];generalize xs.length - (j+1)=i at*
   by_cases hq:xs[i]=ys[i]
   ·rw[if_neg (by simp [hq]),wr (by omega) (by omega)];have e7:((i:Nat):Int) - 1=(xs.length:Int) - 1 - ((j+1:Nat):Int):=by omega
    rw[e7,hg,<-List.take_append_getElem hi,<-List.take_append_getElem hi',dval_append,dval_append,hq];have hlx:(xs.take i).length=i:=by simp;omega
    have hly:(ys.take i).length=i:=by simp;omega
    rw[hlx,hly];unfold cmpN;simp only[Nat.add_lt_add_iff_right]
   ·rw[if_pos (by simp [hq])]
    by_cases hlt:xs[i]<ys[i]
    ·have:=dval_top xs ys i hi hi' (canon_dig cx) (canon_dig cy) hlt;rw[if_pos (decide_eq_true hlt),cmpN,if_pos this]
    ·have:=dval_top ys xs i hi' hi (canon_dig cy) (canon_dig cx) (by omega);rw[if_neg (by simpa using hlt),cmpN,if_neg (by omega),if_pos this]) (fun g=>by
   unfold P.i_nat_cmp_b0;dsimp only;rw[if_neg (by simp;omega),Nat.sub_self,List.take_zero,List.take_zero];rfl) (by omega)
  rw[show(xs.length:Int) - 1 - ((0:Nat):Int)=(xs.length:Int) - 1 by omega,Nat.sub_zero,List.take_length,List.take_of_length_le (by omega)]at key;exact key
 ·rw[if_pos (by simp;omega)]
  by_cases hlt:xs.length<ys.length
  ·rw[if_pos (decide_eq_true (by omega)),cmpN,if_pos (canon_small B32_le cx cy hlt)]
  ·have:=canon_small B32_le cy cx (by omega);rw[if_neg (by simp;omega),cmpN,if_neg (by omega),if_pos this]
abbrev P.i_nat_small_b0 (x1:Int×List Int×Int×Unit) (g2:Int×List Int×Int×Unit->Option ((Int×Bool)×Unit)):Option ((Int×Bool)×Unit):=
 if decide (x1.1>=0)then if decide ((x1.2.1.length:Int)<=2)then if decide (0<=x1.1)then if decide (x1.1<(x1.2.1.length:Int))then g2 (wrap .i64 (x1.1 - 1),x1.2.1,wrap .u64 ((wrap .u64 (x1.2.2.1*4294967296))+(wrap .u64 (x1.2.1.getD x1.1.toNat 0))),())else none else none else some ((x1.2.2.1,decide ((x1.2.1.length:Int)<=2)),())else some ((x1.2.2.1,decide ((x1.2.1.length:Int)<=2)),())
def P.i_nat_small (k:Nat) (x:List Int×Unit):Option ((Int×Bool)×Unit):=
 loopP P.i_nat_small_b0 k (wrap .i64 ((x.1.length:Int) - 1),x.1,0,())
def S.i_nat_small (x:((List Int)×Unit)):(Option ((Int×Bool)×Unit)):=if dig B32 x.1=true/\x.1.length<=1000000000000 then some ((if x.1.length<=2 then((dval B32 x.1:Nat):Int)else 0,decide (x.1.length<=2)),())else none
theorem S.i_nat_small_ok (x r) (h:S.i_nat_small x=some r):∃k,P.i_nat_small k x=some r:=by
 obtain⟨xs,u⟩:=x;unfold S.i_nat_small at h;dsimp only at h;split at h
 case isFalse=>cases h
 rename_i hc;obtain⟨hd,hl⟩:=hc;cases h
 by_cases h2:xs.length<=2
 ·refine⟨xs.length+1,?_⟩;unfold P.i_nat_small;dsimp only;rw[if_pos h2,decide_eq_true h2,wr (by omega) (by omega)];have key:=loop_up0 (k:=xs.length+1) (b:=P.i_nat_small_b0) (n:=xs.length) (st:=fun j=>((xs.length:Int) - 1 - (j:Int),xs,((dval B32 (xs.drop (xs.length - j)):Nat):Int),())) (F:=fun j=>some ((((dval B32 xs:Nat):Int),true),())) (fun j g hj hg=>by
   unfold P.i_nat_small_b0;dsimp only at hg ⊢;have e1:(xs.length:Int) - 1 - (j:Int)>=0:=by omega
   have e2:(xs.length:Int)<=2:=by omega
   have e3:(0:Int)<=(xs.length:Int) - 1 - (j:Int):=by omega
   have e4:(xs.length:Int) - 1 - (j:Int)<(xs.length:Int):=by omega
   simp only[e1,e2,e4,decide_true,if_true];have hi:xs.length - (j+1)<xs.length:=by omega
   have e5:(xs.length:Int) - 1 - (j:Int)=((xs.length - (j+1):Nat):Int):=by omega
   rw[e5,getD_cast xs _ _ hi];have e6:xs.drop (xs.length - (j+1))=xs[xs.length - (j+1)]::xs.drop (xs.length - j):=by
    rw[List.drop_eq_getElem_cons hi];congr 2;omega
   have hx:=dig_get hd hi;have hv:dval B32 (xs.drop (xs.length - j))<B32^1:=by
    have hdd:dig B32 (xs.drop (xs.length - j))=true:=by
     have:=List.take_append_drop (xs.length - j) xs;rw[<-this,dig_append,Bool.and_eq_true]at hd;exact hd.2
    have:=dval_lt hdd;have hp:B32^(xs.drop (xs.length - j)).length<=B32^1:=Nat.pow_le_pow_right (by decide) (by simp;omega);omega
   have hv':dval B32 (xs.drop (xs.length - j))<4294967296:=hv;have hx':xs[xs.length - (j+1)]<4294967296:=hx.2;rw[e6]at hg;rw[<-hg,wr (by omega) (by omega),wu (x:=(dval B32 (xs.drop (xs.length - j)):Int)*4294967296) (by omega) (by omega),wu (x:=xs[xs.length - (j+1)]) (by omega) (by omega),wu (by omega) (by omega)];congr 1;simp only[Prod.mk.injEq,dval];refine⟨by omega,trivial,?_,trivial⟩;show _=(((xs[xs.length - (j+1)]).toNat+4294967296*dval B32 (xs.drop (xs.length - j)):Nat):Int)
   omega) (fun g=>by
   unfold P.i_nat_small_b0;dsimp only;rw[if_neg (by simp;omega),Nat.sub_self,List.drop_zero,decide_eq_true (by omega)]) (by omega)
  have e0:dval B32 (xs.drop (xs.length - 0))=0:=by rw[Nat.sub_zero,List.drop_length];rfl
  rw[show(xs.length:Int) - 1 - ((0:Nat):Int)=(xs.length:Int) - 1 by omega,e0]at key;exact key
 ·refine⟨1,?_⟩;unfold P.i_nat_small;rw[loopP_succ];unfold P.i_nat_small_b0;dsimp only;rw[wr (by omega) (by omega),if_pos (decide_eq_true (by omega)),if_neg (by simp;omega),if_neg h2,decide_eq_false h2,decide_eq_false (by omega)]
def S.math_bits_LeadingZeros32 (x:(Int×Unit)):(Option (Int×Unit)):=if 0<=x.1/\x.1<=4294967295 then some (32 - (Go.Lib.bitLen x.1.toNat:Int),())else none
abbrev P.i_nat_divSmall_b0 (x1:Int×Int×List Int×List Int×Int×Unit) (g2:Int×Int×List Int×List Int×Int×Unit->Option ((List Int×Int)×Unit)):Option ((List Int×Int)×Unit):=
 (fun(a b e:Int) (c d:List Int)=>if decide (a>=0)then if decide (0<=a)then if decide (a<(c.length:Int))then if decide ((wrap .u64 e)=0)then none else if decide (0<=a)then if decide (a<(d.length:Int))then if decide ((wrap .u64 e)=0)then none else g2 (wrap .i64 (a - 1),Int.tmod (wrap .u64 ((wrap .u64 (b*4294967296))+(wrap .u64 (c.getD a.toNat 0)))) (wrap .u64 e),c,d.set (0+a.toNat) (wrap .u32 (wrap .u64 (Int.tdiv (wrap .u64 ((wrap .u64 (b*4294967296))+(wrap .u64 (c.getD a.toNat 0)))) (wrap .u64 e)))),e,())else none else none else none else none else(S.i_nat_trim (d,())).bind fun y3=>some ((y3.1,wrap .u32 b),())) x1.1 x1.2.1 x1.2.2.2.2.1 x1.2.2.1 x1.2.2.2.1
def P.i_nat_divSmall (k:Nat) (x:List Int×Int×Unit):Option ((List Int×Int)×Unit):=
 if decide (0<=(x.1.length:Int))then if decide ((x.1.length:Int)<=(x.1.length:Int))then if decide (((x.1.length:Int)*4)<=281474976710656)then loopP P.i_nat_divSmall_b0 k (wrap .i64 ((x.1.length:Int) - 1),0,x.1,List.replicate (Int.toNat (x.1.length:Int)) 0,x.2.1,())else none else none else none
def S.i_nat_divSmall (x:((List Int)×(Int×Unit))):(Option (((List Int)×Int)×Unit)):=if dig B32 x.1=true/\0<x.2.1/\x.2.1<4294967296/\x.1.length<=1000000000000 then some ((nd B32 (dval B32 x.1/x.2.1.toNat),((dval B32 x.1%x.2.1.toNat:Nat):Int)),())else none
theorem S.i_nat_divSmall_ok (x r) (h:S.i_nat_divSmall x=some r):∃k,P.i_nat_divSmall k x=some r:=by
 obtain⟨xs,b,u⟩:=x;unfold S.i_nat_divSmall at h;dsimp only at h;split at h
 case isFalse=>cases h
 rename_i hc;obtain⟨hd,hb0,hb1,hl⟩:=hc;cases h;refine⟨xs.length+1,?_⟩;unfold P.i_nat_divSmall;dsimp only;have a1:(0:Int)<=(xs.length:Int):=by omega
 have a2:(xs.length:Int)<=(xs.length:Int):=by omega
 have a3:(xs.length:Int)*4<=281474976710656:=by omega
 simp only[a1,a2,a3,decide_true,if_true];rw[wr (by omega) (by omega),Int.toNat_natCast];have hdr:∀m,dig B32 (xs.drop m)=true:=by
  intro m;have:=List.take_append_drop m xs;have hd':=hd;rw[<-this,dig_append,Bool.and_eq_true]at hd';exact hd'.2
 have hbN:0<b.toNat:=by omega
 have key:=loop_up0 (k:=xs.length+1) (b:=P.i_nat_divSmall_b0) (n:=xs.length) (st:=fun j=>((xs.length:Int) - 1 - (j:Int),((qdiv B32 b.toNat (xs.drop (xs.length - j))).2:Int),xs,List.replicate (xs.length - j) (0:Int)++(qdiv B32 b.toNat (xs.drop (xs.length - j))).1,b,())) (F:=fun j=>some ((nd B32 (dval B32 xs/b.toNat),((dval B32 xs%b.toNat:Nat):Int)),())) (fun j g hj hg=>by
  unfold P.i_nat_divSmall_b0;dsimp only at hg ⊢;obtain⟨q1,q2,q3,q4⟩:=qdiv_ok B32 b.toNat hbN (xs.drop (xs.length - j)) (hdr _);have hi:xs.length - (j+1)<xs.length:=by omega
  have e5:(xs.length:Int) - 1 - (j:Int)=((xs.length - (j+1):Nat):Int):=by omega
  have e6:xs.drop (xs.length - (j+1))=xs[xs.length - (j+1)]::xs.drop (xs.length - j):=by
   rw[List.drop_eq_getElem_cons hi];congr 2;omega
  have e7:xs.length - j=(xs.length - (j+1))+1:=by omega
  have hlen:(List.replicate (xs.length - j) (0:Int)++(qdiv B32 b.toNat (xs.drop (xs.length - j))).1).length=xs.length:=by
   rw[List.length_append,List.length_replicate,q2,List.length_drop];omega
  have hx:=dig_get hd hi;have hx1:xs[xs.length - (j+1)]<4294967296:=hx.2;have hx0:=hx.1;have hm:(qdiv B32 b.toNat (xs.drop (xs.length - j))).2<b.toNat:=by rw[q4];exact Nat.mod_lt _ hbN
  rw[e6]at hg;rw[hlen,e5,getD_cast xs _ _ hi];have a1:((xs.length - (j+1):Nat):Int)>=0:=by omega
  have a2:(0:Int)<=((xs.length - (j+1):Nat):Int):=by omega
  have a3:((xs.length - (j+1):Nat):Int)<(xs.length:Int):=by omega
  rw[wu (x:=b) (by omega) (by omega)];have a4:¬(b=0):=by omega
  simp only[a1,a3,a4,decide_true,decide_false,if_true,if_false,Bool.false_eq_true];generalize hR:(qdiv B32 b.toNat (xs.drop (xs.length - j))).2=R at*;generalize hX:xs[xs.length - (j+1)]=X at*;have hRX:(R:Int)*4294967296+X<b*4294967296:=by omega
  rw[wu (x:=(R:Int)*4294967296) (by omega) (by omega),wu (x:=X) (by omega) (by omega),wu (x:=(R:Int)*4294967296+X) (by omega) (by omega)];have eT:Int.tdiv ((R:Int)*4294967296+X) b=(((R*B32+X.toNat)/b.toNat:Nat):Int):=by
   rw[Int.tdiv_eq_ediv_of_nonneg (by omega)];have:(R:Int)*4294967296+X=((R*4294967296+X.toNat:Nat):Int):=by omega
   rw[this];have hb:b=((b.toNat:Nat):Int):=by omega
   conv=>lhs;rw[hb]
   exact(Int.natCast_ediv _ _).symm
  have eM:Int.tmod ((R:Int)*4294967296+X) b=(((R*B32+X.toNat)%b.toNat:Nat):Int):=by
   rw[Int.tmod_eq_emod_of_nonneg (by omega)];have:(R:Int)*4294967296+X=((R*4294967296+X.toNat:Nat):Int):=by omega
   rw[this];have hb:b=((b.toNat:Nat):Int):=by omega
   conv=>lhs;rw[hb]
   exact(Int.natCast_emod _ _).symm
  have hQ:(R*B32+X.toNat)/b.toNat<B32:=(Nat.div_lt_iff_lt_mul hbN).2 (by
   show R*4294967296+X.toNat<4294967296*b.toNat;omega)
  have hQ':(R*B32+X.toNat)/b.toNat<4294967296:=hQ;have z0:(0:Int)<=(((R*B32+X.toNat)/b.toNat:Nat):Int):=Int.natCast_nonneg _;have z1:(((R*B32+X.toNat)/b.toNat:Nat):Int)<4294967296:=Int.ofNat_lt.2 hQ';rw[eT,eM,wu z0 (Int.lt_trans z1 (by decide)),w32 z0 z1,wr (x:=((xs.length - (j+1):Nat):Int) - 1) (by omega) (by omega),Nat.zero_add,Int.toNat_natCast];have hset:∀(Q:List Int) (v:Int),(List.replicate (xs.length - j) (0:Int)++Q).set (xs.length - (j+1)) v=List.replicate (xs.length - (j+1)) 0++v::Q:=by
   intro Q v;rw[e7];exact set_back _ _ _
  rw[hset,<-hg];congr 1;simp only[Prod.mk.injEq,qdiv];rw[hR]
  and_intros<;>first|rfl|omega|trivial) (fun g=>by
  unfold P.i_nat_divSmall_b0;dsimp only;obtain⟨q1,q2,q3,q4⟩:=qdiv_ok B32 b.toNat hbN xs hd;rw[if_neg (by simp;omega),Nat.sub_self,List.drop_zero,List.replicate_zero,List.nil_append,trim_i _ q1 (by omega),Option.bind_some,q3,q4];have hm:=Nat.mod_lt (dval B32 xs) hbN;rw[w32 (by omega) (by omega)]) (by omega)
 rw[show(xs.length:Int) - 1 - ((0:Nat):Int)=(xs.length:Int) - 1 by omega,Nat.sub_zero,List.drop_length]at key;simpa [qdiv]using key
abbrev P.i_nat_shifted_b0 (x1:Int×Int×List Int×Int×List Int×Unit) (g2:Int×Int×List Int×Int×List Int×Unit->Option (List Int×Unit)):Option (List Int×Unit):=
 (fun(a b d:Int) (c e:List Int)=>if decide (a<b)then if decide (0<=a)then if decide (a<(c.length:Int))then if decide (d<0)then none else if decide (0<=a)then if decide (a<(e.length:Int))then if decide (0<=a)then if decide (a<(e.length:Int))then if decide (0<=(wrap .i64 (a+1)))then if decide ((wrap .i64 (a+1))<(List.length (e.set (0+a.toNat) (wrap .u32 ((BitVec.toNat ((BitVec.ofInt 32 (e.getD (0+a.toNat) 0))|||(BitVec.ofInt 32 (wrap .u32 (wrap .u64 ((wrap .u64 (c.getD a.toNat 0))*((2:Int)^(Min.min d.toNat 64))))))):Nat):Int))):Int))then g2 (wrap .i64 (a+1),b,c,d,List.set (e.set (0+a.toNat) (wrap .u32 ((BitVec.toNat ((BitVec.ofInt 32 (e.getD (0+a.toNat) 0))|||(BitVec.ofInt 32 (wrap .u32 (wrap .u64 ((wrap .u64 (c.getD a.toNat 0))*((2:Int)^(Min.min d.toNat 64))))))):Nat):Int))) (0+(Int.toNat (wrap .i64 (a+1)))) (wrap .u32 (Int.fdiv (wrap .u64 ((wrap .u64 (c.getD a.toNat 0))*((2:Int)^(Min.min d.toNat 64)))) 4294967296)),())else none else none else none else none else none else none else none else none else some (e,())) x1.1 x1.2.1 x1.2.2.2.1 x1.2.2.1 x1.2.2.2.2.1
def P.i_nat_shifted (k:Nat) (x:List Int×Int×Unit):Option (List Int×Unit):=
 if decide (0<=(wrap .i64 ((x.1.length:Int)+1)))then if decide ((wrap .i64 ((x.1.length:Int)+1))<=(wrap .i64 ((x.1.length:Int)+1)))then if decide (((wrap .i64 ((x.1.length:Int)+1))*4)<=281474976710656)then loopP P.i_nat_shifted_b0 k (0,(x.1.length:Int),x.1,x.2.1,List.replicate (Int.toNat (wrap .i64 ((x.1.length:Int)+1))) 0,())else none else none else none
def S.i_nat_shifted (x:((List Int)×(Int×Unit))):(Option ((List Int)×Unit)):=if dig B32 x.1=true/\0<=x.2.1/\x.2.1<=31/\x.1.length<=10000000000 then some (fd B32 (x.1.length+1) (dval B32 x.1*2^x.2.1.toNat),())else none
theorem S.i_nat_shifted_ok (x r) (h:S.i_nat_shifted x=some r):∃k,P.i_nat_shifted k x=some r:=by
 obtain⟨xs,by',u⟩:=x;unfold S.i_nat_shifted at h;dsimp only at h;split at h
 case isFalse=>cases h
 rename_i hc;obtain⟨hd,hb0,hb1,hl⟩:=hc;cases h;obtain⟨s,rfl⟩:∃d:Nat,by'=(d:Int):=⟨by'.toNat,by omega⟩
 rw[Int.toNat_natCast];have hs:s<=31:=by omega
 have hpow:0<2^s:=Nat.pow_pos (by decide);have hpow32:2^s<=2147483648:=Nat.le_trans (Nat.pow_le_pow_right (by decide) hs) (by decide);refine⟨xs.length+1,?_⟩;unfold P.i_nat_shifted;dsimp only;rw[wr (by omega) (by omega)];have a1:(0:Int)<=(xs.length:Int)+1:=by omega
 have a3:((xs.length:Int)+1)*4<=281474976710656:=by omega
 rw[if_pos (decide_eq_true a1),if_pos (decide_eq_true (Int.le_refl _)),if_pos (decide_eq_true a3)];have e0:List.replicate ((xs.length:Int)+1).toNat (0:Int)=(mulUp B32 (2^s) xs 0).1++(((mulUp B32 (2^s) xs 0).2:Int)::List.replicate (xs.length - 0) 0):=by
  rw[show((xs.length:Int)+1).toNat=xs.length+1 by omega,List.replicate_succ];rfl
 rw[e0];have key:=loop_up0 (k:=xs.length+1) (b:=P.i_nat_shifted_b0) (n:=xs.length) (st:=fun i=>((i:Int),(xs.length:Int),xs,(s:Int),(mulUp B32 (2^s) xs i).1++(((mulUp B32 (2^s) xs i).2:Int)::List.replicate (xs.length - i) 0),())) (F:=fun i=>some (fd B32 (xs.length+1) (dval B32 xs*2^s),())) (fun i g hi hg=>by
  unfold P.i_nat_shifted_b0;dsimp only at hg ⊢;obtain⟨q1,q2,q3,q4⟩:=mulUp_ok (d:=2^s) B32_le hd i (by omega);have hlen:((mulUp B32 (2^s) xs i).1++(((mulUp B32 (2^s) xs i).2:Int)::List.replicate (xs.length - i) 0)).length=xs.length+1:=by rw[List.length_append,q2,List.length_cons,List.length_replicate];omega
  have e1:(i:Int)<(xs.length:Int):=by omega
  have e2:(0:Int)<=(i:Int):=by omega
  have e3:(i:Int)<((xs.length+1:Nat):Int):=by omega
  have e4:¬((s:Int)<0):=by omega
  rw[hlen];simp only[e1,e2,e3,e4,decide_true,decide_false,if_true,Nat.zero_add,Int.toNat_natCast,List.length_set,hlen,Bool.false_eq_true,if_false];rw[wr (x:=(i:Int)+1) (by omega) (by omega)];have e5:(0:Int)<=(i:Int)+1:=by omega
  have e6:(i:Int)+1<((xs.length+1:Nat):Int):=by omega
  simp only[e5,e6,decide_true,if_true];have hgD:xs.getD i 0=xs[i]:=by simp [hi]
  have hx:=dig_get hd hi;have hx1:xs[i]<4294967296:=hx.2;have hx0:=hx.1;rw[mulUp,hgD]at hg;rw[hgD];have hcar:(mulUp B32 (2^s) xs i).2<2^s:=by
   have h1:dval B32 (xs.take i)<B32^i:=by
    have h0:dig B32 (xs.take i)=true:=by
     have:=List.take_append_drop i xs;rw[<-this,dig_append,Bool.and_eq_true]at hd;exact hd.1
    have:=dval_lt h0;rwa [show(xs.take i).length=i by simp;omega]at this
   have h2:dval B32 (xs.take i)*2^s<B32^i*2^s:=Nat.mul_lt_mul_of_pos_right h1 hpow;exact Nat.lt_of_mul_lt_mul_left (a:=B32^i) (by omega)
  generalize hP:mulUp B32 (2^s) xs i=p at*;obtain⟨z,hz⟩:∃z:Nat,xs[i]=(z:Int):=⟨xs[i].toNat,(Int.toNat_of_nonneg hx0).symm⟩
  rw[hz]at hx1 hg ⊢;rw[Int.toNat_natCast]at hg;have hz32:z<2^32:=by omega
  have hzp:z*2^s<18446744073709551616:=Nat.lt_of_lt_of_le (Nat.mul_lt_mul_of_pos_right hz32 hpow) (by have:=Nat.mul_le_mul_left (2^32) hpow32;omega);have emin:Min.min s 64=s:=by omega
  have ep:((2:Int)^s)=((2^s:Nat):Int):=by rw[Int.natCast_pow];rfl
  have em:(z:Int)*((2^s:Nat):Int)=((z*2^s:Nat):Int):=(Int.natCast_mul _ _).symm;rw[wu (x:=(z:Int)) (by omega) (by omega),emin,ep,em,wu (x:=((z*2^s:Nat):Int)) (by omega) (by omega)];have g1:(p.1++((p.2:Int)::List.replicate (xs.length - i) 0)).getD i 0=(p.2:Int):=by
   rw[List.getD_eq_getElem?_getD,List.getElem?_append_right (by omega),q2,Nat.sub_self];rfl
  rw[g1,u32_mod ((z*2^s:Nat):Int) (by omega)];have e7:((z*2^s:Nat):Int)%4294967296=((z*2^s%2^32:Nat):Int):=by
   show _=((z*2^s%4294967296:Nat):Int)
   omega
  have hlow:=shl_low z s (by omega);have hor:p.2|||(z*2^s%2^32)=p.2+z*2^s%2^32:=by rw[hlow,or_apart _ _ _ hcar]
  have hmlt:z*2^s%2^32<2^32:=Nat.mod_lt _ (by decide);have hsum:p.2+z*2^s%2^32<2^32:=by
   have h1:z%2^(32 - s)+1<=2^(32 - s):=Nat.mod_lt _ (Nat.pow_pos (by decide));have h2:2^s*(z%2^(32 - s)+1)<=2^s*2^(32 - s):=Nat.mul_le_mul_left _ h1;rw[<-Nat.pow_add,show s+(32 - s)=32 by omega,Nat.mul_add]at h2;omega
  rw[e7,bv_or _ _ (by omega) hmlt,hor,w32 (by omega) (by omega),Int.fdiv_eq_ediv_of_nonneg _ (by omega)];have hq:z*2^s/4294967296<4294967296:=(Nat.div_lt_iff_lt_mul (by decide)).2 (by omega);have e8:((z*2^s:Nat):Int)/4294967296=((z*2^s/4294967296:Nat):Int):=by omega
  rw[e8,w32 (by omega) (by omega)];have e9:(z*2^s+p.2)%B32=p.2+z*2^s%2^32:=by
   show(z*2^s+p.2)%4294967296=p.2+z*2^s%4294967296;omega
  have e10:(z*2^s+p.2)/B32=z*2^s/4294967296:=by
   show(z*2^s+p.2)/4294967296=_;omega
  rw[e9,e10]at hg;have z1:xs.length - i=(xs.length - (i+1))+1:=by omega
  rw[z1,List.replicate_succ,List.set_append_right _ _ (by omega),q2,Nat.sub_self,List.set_cons_zero,List.set_append_right _ _ (by omega),q2,show((i:Int)+1).toNat - i=1 by omega,List.set_cons_succ,List.set_cons_zero];rw[List.append_assoc]at hg;exact hg) (fun g=>by
  unfold P.i_nat_shifted_b0;dsimp only;obtain⟨q1,q2,q3,q4⟩:=mulUp_ok (d:=2^s) B32_le hd xs.length (Nat.le_refl _);rw[List.take_length]at q3;have hcar:(mulUp B32 (2^s) xs xs.length).2<2^s:=by
   have h2:dval B32 xs*2^s<B32^xs.length*2^s:=Nat.mul_lt_mul_of_pos_right (dval_lt hd) hpow;exact Nat.lt_of_mul_lt_mul_left (a:=B32^xs.length) (by omega)
  rw[if_neg (by simp),Nat.sub_self];generalize mulUp B32 (2^s) xs xs.length=p at*;have hdd:dig B32 (p.1++[(p.2:Int)])=true:=by
   rw[dig_append,q1,Bool.true_and,dig_cons];refine⟨⟨Int.natCast_nonneg _,?_⟩,rfl⟩;show(p.2:Int)<4294967296;omega
  have:=fd_dval (B:=B32) (by decide) hdd;rw[dval_append,q2,show dval B32 [(p.2:Int)]=p.2 by simp [dval],q3,List.length_append,q2]at this;show some (p.1++[(p.2:Int)],())=_;rw[<-this];rfl) (by omega)
 exact key
abbrev i_takeAway.A:=Option (Bool×List Int×Unit)
abbrev P.i_takeAway_b3 (x4:Int×Int×Int×List Int×List Int×Unit) (g5:Int×Int×Int×List Int×List Int×Unit->i_takeAway.A):i_takeAway.A:=
 (fun(a b c:Int) (d e:List Int)=>if decide (a<b)then if decide (0<=a)then if decide (a<(d.length:Int))then if decide (a<(e.length:Int))then if decide (0<=a)then if decide (a<(e.length:Int))then if decide (0<=a)then if decide (a<(d.length:Int))then g5 (wrap .i64 (a+1),b,Int.fdiv (wrap .u64 ((wrap .u64 (c+(wrap .u64 (d.getD (0+a.toNat) 0))))+(wrap .u64 (e.getD a.toNat 0)))) 4294967296,d.set (0+a.toNat) (wrap .u32 (wrap .u64 ((wrap .u64 (c+(wrap .u64 (d.getD (0+a.toNat) 0))))+(wrap .u64 (e.getD a.toNat 0))))),e,())else none else none else none else none else if decide (0<=a)then if decide (a<(d.length:Int))then g5 (wrap .i64 (a+1),b,Int.fdiv (wrap .u64 (c+(wrap .u64 (d.getD (0+a.toNat) 0)))) 4294967296,d.set (0+a.toNat) (wrap .u32 (wrap .u64 (c+(wrap .u64 (d.getD (0+a.toNat) 0))))),e,())else none else none else none else none else some (true,d,())) x4.1 x4.2.1 x4.2.2.1 x4.2.2.2.1 x4.2.2.2.2.1
abbrev P.i_takeAway_b0 (k:Nat) (x1:Int×Int×List Int×Int×Int×List Int×Int×Unit) (g2:Int×Int×List Int×Int×Int×List Int×Int×Unit->i_takeAway.A):i_takeAway.A:=
 (fun(a b d e h:Int) (c f:List Int)=>if decide (a<b)then if decide (a<(c.length:Int))then if decide (0<=a)then if decide (a<(c.length:Int))then if decide (0<=a)then if decide (a<(f.length:Int))then if decide ((wrap .i64 ((wrap .i64 ((wrap .i64 (f.getD (0+a.toNat) 0)) - (wrap .i64 (wrap .u32 (wrap .u64 (d+(wrap .u64 (e*(wrap .u64 (c.getD a.toNat 0)))))))))) - h))<0)then if decide (0<=a)then if decide (a<(f.length:Int))then g2 (wrap .i64 (a+1),b,c,Int.fdiv (wrap .u64 (d+(wrap .u64 (e*(wrap .u64 (c.getD a.toNat 0)))))) 4294967296,e,f.set (0+a.toNat) (wrap .u32 (wrap .i64 ((wrap .i64 ((wrap .i64 (f.getD (0+a.toNat) 0)) - (wrap .i64 (wrap .u32 (wrap .u64 (d+(wrap .u64 (e*(wrap .u64 (c.getD a.toNat 0)))))))))) - h))),1,())else none else none else if decide (0<=a)then if decide (a<(f.length:Int))then g2 (wrap .i64 (a+1),b,c,Int.fdiv (wrap .u64 (d+(wrap .u64 (e*(wrap .u64 (c.getD a.toNat 0)))))) 4294967296,e,f.set (0+a.toNat) (wrap .u32 (wrap .i64 ((wrap .i64 ((wrap .i64 (f.getD (0+a.toNat) 0)) - (wrap .i64 (wrap .u32 (wrap .u64 (d+(wrap .u64 (e*(wrap .u64 (c.getD a.toNat 0)))))))))) - h))),0,())else none else none else none else none else none else none else if decide (0<=a)then if decide (a<(f.length:Int))then if decide ((wrap .i64 ((wrap .i64 ((wrap .i64 (f.getD (0+a.toNat) 0)) - (wrap .i64 (wrap .u32 d)))) - h))<0)then if decide (0<=a)then if decide (a<(f.length:Int))then g2 (wrap .i64 (a+1),b,c,Int.fdiv d 4294967296,e,f.set (0+a.toNat) (wrap .u32 (wrap .i64 ((wrap .i64 ((wrap .i64 (f.getD (0+a.toNat) 0)) - (wrap .i64 (wrap .u32 d)))) - h))),1,())else none else none else if decide (0<=a)then if decide (a<(f.length:Int))then g2 (wrap .i64 (a+1),b,c,Int.fdiv d 4294967296,e,f.set (0+a.toNat) (wrap .u32 (wrap .i64 ((wrap .i64 ((wrap .i64 (f.getD (0+a.toNat) 0)) - (wrap .i64 (wrap .u32 d)))) - h))),0,())else none else none else none else none else if h==0 then if d==0 then some (false,f,())else loopP P.i_takeAway_b3 k (0,(f.length:Int),0,f,c,())else loopP P.i_takeAway_b3 k (0,(f.length:Int),0,f,c,())) x1.1 x1.2.1 x1.2.2.2.1 x1.2.2.2.2.1 x1.2.2.2.2.2.2.1 x1.2.2.1 x1.2.2.2.2.2.1
def P.i_takeAway (k:Nat) (x:List Int×List Int×Int×Unit):i_takeAway.A:=
 loopP (P.i_takeAway_b0 k) k (0,(x.1.length:Int),x.2.1,0,x.2.2.1,x.1,0,())
theorem takeBack (b:(Int×(Int×(Int×((List Int)×((List Int)×Unit)))))->((Int×(Int×(Int×((List Int)×((List Int)×Unit)))))->Option (Bool×((List Int)×Unit)))->Option (Bool×((List Int)×Unit))) (hb:b=P.i_takeAway_b3)
  (xs ys:List Int) (hx:dig B32 xs=true) (hy:dig B32 ys=true) (hl:ys.length<=xs.length) (hbig:xs.length<=100000000000):
  loopP b (xs.length+1) ((0:Int),((xs.length:Int),((0:Int),(xs,(ys,())))))=some (true,fd B32 xs.length (dval B32 xs+dval B32 ys),()):=by
 subst hb;have key:=loop_up0 (k:=xs.length+1) (b:=P.i_takeAway_b3) (n:=xs.length) (st:=fun i=>((i:Int),(xs.length:Int),((addUp B32 xs ys i).2:Int),(addUp B32 xs ys i).1++xs.drop i,ys,())) (F:=fun i=>some (true,fd B32 xs.length (dval B32 xs+dval B32 ys),())) (fun i g hi hg=>by
  unfold P.i_takeAway_b3;dsimp only at hg ⊢;obtain⟨q1,q2,q3,q4⟩:=addUp_ok B32_le hx hy i;have gx:=dig_getD (B:=B32) (by decide) hx i;have gy:=dig_getD (B:=B32) (by decide) hy i;have gx1:xs.getD i 0<4294967296:=gx.2;have gy1:ys.getD i 0<4294967296:=gy.2;have gx0:=gx.1;have gy0:=gy.1;have hlen:((addUp B32 xs ys i).1++xs.drop i).length=xs.length:=by rw[List.length_append,q2,List.length_drop];omega
  have e1:(i:Int)<(xs.length:Int):=by omega
  have e2:(0:Int)<=(i:Int):=by omega
  rw[hlen];simp only[e1,e2,decide_true,if_true,Nat.zero_add,Int.toNat_natCast];rw[drop_cons_getD hi,mid_get q2];simp only[mid_set q2];have hnat:∀n:Nat,n=(addUp B32 xs ys i).2+(xs.getD i 0).toNat+(ys.getD i 0).toNat->(((n%B32:Nat):Int)=(n:Int)%4294967296/\((n/B32:Nat):Int)=(n:Int)/4294967296):=by
   intro n _;constructor
   ·show((n%4294967296:Nat):Int)=_;omega
   ·show((n/4294967296:Nat):Int)=_;omega
  obtain⟨n1,n2⟩:=hnat _ rfl;rw[addUp]at hg;dsimp only at hg;rw[n1,n2]at hg
  by_cases hj:(i:Int)<(ys.length:Int)
  ·rw[if_pos (decide_eq_true hj),if_pos (decide_eq_true hj)];rw[wu (x:=xs.getD i 0) (by omega) (by omega),wu (x:=ys.getD i 0) (by omega) (by omega),wu (x:=((addUp B32 xs ys i).2:Int)+xs.getD i 0) (by omega) (by omega),wu (x:=((addUp B32 xs ys i).2:Int)+xs.getD i 0+ys.getD i 0) (by omega) (by omega),u32_mod _ (by omega),Int.fdiv_eq_ediv_of_nonneg _ (by omega),wr (by omega) (by omega)];have e:(((addUp B32 xs ys i).2+(xs.getD i 0).toNat+(ys.getD i 0).toNat:Nat):Int)=((addUp B32 xs ys i).2:Int)+xs.getD i 0+ys.getD i 0:=by omega
   rw[e]at hg;exact hg
  ·rw[if_neg (by simpa using hj)];have y0:ys.getD i 0=0:=by rw[List.getD_eq_getElem?_getD,List.getElem?_eq_none (by omega)];rfl
   rw[wu (x:=xs.getD i 0) (by omega) (by omega),wu (x:=((addUp B32 xs ys i).2:Int)+xs.getD i 0) (by omega) (by omega),u32_mod _ (by omega),Int.fdiv_eq_ediv_of_nonneg _ (by omega),wr (by omega) (by omega)];have e:(((addUp B32 xs ys i).2+(xs.getD i 0).toNat+(ys.getD i 0).toNat:Nat):Int)=((addUp B32 xs ys i).2:Int)+xs.getD i 0:=by omega
   rw[e]at hg;exact hg) (fun g=>by
  unfold P.i_takeAway_b3;dsimp only;rw[if_neg (by simp),List.drop_length,List.append_nil,addUp_fd B32_le hx hy hl]) (by omega)
 have e0:(addUp B32 xs ys 0).1++xs.drop 0=xs:=rfl;rw[e0]at key;exact key
def S.i_takeAway (x:((List Int)×((List Int)×(Int×Unit)))):(Option (Bool×((List Int)×Unit))):=
 if dig B32 x.1=true/\dig B32 x.2.1=true/\0<=x.2.2.1/\x.2.2.1<4294967296/\x.2.1.length<=x.1.length/\x.1.length<=10000000000/\dval B32 x.2.1*x.2.2.1.toNat<=dval B32 x.1+dval B32 x.2.1 then
  (if dval B32 x.2.1*x.2.2.1.toNat<=dval B32 x.1 then some (false,fd B32 x.1.length (dval B32 x.1 - dval B32 x.2.1*x.2.2.1.toNat),())
   else some (true,fd B32 x.1.length (dval B32 x.1+dval B32 x.2.1 - dval B32 x.2.1*x.2.2.1.toNat),()))else none
theorem S.i_takeAway_ok (x r) (h:S.i_takeAway x=some r):∃k,P.i_takeAway k x=some r:=by
 obtain⟨xs,ys,t',u⟩:=x;unfold S.i_takeAway at h;dsimp only at h;split at h
 case isFalse=>cases h
 rename_i hc;obtain⟨hx,hy,ht0,ht1,hl,hbig,hfit⟩:=hc;obtain⟨t,rfl⟩:∃d:Nat,t'=(d:Int):=⟨t'.toNat,by omega⟩
 rw[Int.toNat_natCast]at h hfit;have ht:t<=4294967295:=by omega
 refine⟨xs.length+1,?_⟩;rw[<-h];unfold P.i_takeAway;dsimp only;have key:=loop_up0 (k:=xs.length+1) (b:=P.i_takeAway_b0 (xs.length+1)) (n:=xs.length) (st:=fun i=>((i:Int),(xs.length:Int),ys,((takeUp B32 t xs ys i).2.1:Int),(t:Int),(takeUp B32 t xs ys i).1++xs.drop i,((takeUp B32 t xs ys i).2.2:Int),())) (F:=fun i=>(if dval B32 ys*t<=dval B32 xs then some (false,fd B32 xs.length (dval B32 xs - dval B32 ys*t),())
   else some (true,fd B32 xs.length (dval B32 xs+dval B32 ys - dval B32 ys*t),()))) (fun i g hi hg=>by
  unfold P.i_takeAway_b0;dsimp only at hg ⊢;obtain⟨q1,q2,q3,q4,q5⟩:=takeUp_ok (t:=t) B32_le hx hy i;have gx:=dig_getD (B:=B32) (by decide) hx i;have gy:=dig_getD (B:=B32) (by decide) hy i;have gx1:xs.getD i 0<4294967296:=gx.2;have gy1:ys.getD i 0<4294967296:=gy.2;have gx0:=gx.1;have gy0:=gy.1;have hlen:((takeUp B32 t xs ys i).1++xs.drop i).length=xs.length:=by rw[List.length_append,q2,List.length_drop];omega
  have e1:(i:Int)<(xs.length:Int):=by omega
  have e2:(0:Int)<=(i:Int):=by omega
  rw[hlen];simp only[e1,e2,decide_true,if_true,Nat.zero_add,Int.toNat_natCast];rw[drop_cons_getD hi,mid_get q2];simp only[mid_set q2];rw[takeUp]at hg;dsimp only at hg;have y0:¬((i:Int)<(ys.length:Int))->ys.getD i 0=0:=by
   intro hj;rw[List.getD_eq_getElem?_getD,List.getElem?_eq_none (by omega)];rfl
  generalize xs.getD i 0=x at*;generalize ys.getD i 0=y at*;generalize takeUp B32 t xs ys i=p at*;obtain⟨pl,c0,l0⟩:=p;dsimp only at*;obtain⟨Y,rfl⟩:∃Y:Nat,y=(Y:Int):=⟨y.toNat,by omega⟩
  rw[Int.toNat_natCast]at hg;have htY:t*Y<=4294967295*4294967295:=Nat.mul_le_mul ht (by omega);have em:(t:Int)*(Y:Int)=((t*Y:Nat):Int):=(Int.natCast_mul _ _).symm;have fin:∀c:Nat,c=c0+t*Y->(let n:=IntKind.wrap .i64 (IntKind.wrap .i64 (IntKind.wrap .i64 x - IntKind.wrap .i64 (IntKind.wrap .u32 (c:Int))) - (l0:Int))
    (if decide (n<0)=true then g (IntKind.wrap .i64 ((i:Int)+1),(xs.length:Int),ys,Int.fdiv (c:Int) 4294967296,(t:Int),(pl++[IntKind.wrap .u32 n])++xs.drop (i+1),1,())
     else g (IntKind.wrap .i64 ((i:Int)+1),(xs.length:Int),ys,Int.fdiv (c:Int) 4294967296,(t:Int),(pl++[IntKind.wrap .u32 n])++xs.drop (i+1),0,()))=(if dval B32 ys*t<=dval B32 xs then some (false,fd B32 xs.length (dval B32 xs - dval B32 ys*t),())
   else some (true,fd B32 xs.length (dval B32 xs+dval B32 ys - dval B32 ys*t),()))):=by
   intro c hcc;rw[<-hcc]at hg;have e8:(c:Int)%4294967296=((c%B32:Nat):Int):=by
    show _=((c%4294967296:Nat):Int)
    omega
   have e9:Int.fdiv (c:Int) 4294967296=((c/B32:Nat):Int):=by
    rw[Int.fdiv_eq_ediv_of_nonneg _ (by omega)];show _=((c/4294967296:Nat):Int)
    omega
   have e10:c%B32<4294967296:=Nat.mod_lt _ (by decide);rw[u32_mod (c:Int) (by omega),e8,e9,wr (x:=(i:Int)+1) (by omega) (by omega),wr (x:=x) (by omega) (by omega),wr (x:=((c%B32:Nat):Int)) (by omega) (by omega),wr (x:=x - ((c%B32:Nat):Int)) (by omega) (by omega),wr (x:=x - ((c%B32:Nat):Int) - (l0:Int)) (by omega) (by omega)];dsimp only;rw[u32_emod]
   by_cases hn:x - ((c%B32:Nat):Int) - (l0:Int)<0
   ·rw[if_pos hn]at hg;rw[if_pos (decide_eq_true hn)];exact hg
   ·rw[if_neg hn]at hg;rw[if_neg (by simpa using hn)];exact hg
  by_cases hj:(i:Int)<(ys.length:Int)
  ·simp only[hj,decide_true,if_true];rw[wu (x:=(Y:Int)) (by omega) (by omega),em,wu (x:=((t*Y:Nat):Int)) (by omega) (by omega),<-Int.natCast_add,wu (x:=((c0+t*Y:Nat):Int)) (by omega) (by omega)];exact fin _ rfl
  ·rw[if_neg (by simpa using hj)];have hY:Y=0:=by have:=y0 hj;omega
   subst hY;exact fin c0 rfl) (fun g=>by
  unfold P.i_takeAway_b0;dsimp only;obtain⟨q1,q2,q3,q4,q5⟩:=takeUp_ok (t:=t) B32_le hx hy xs.length;rw[List.take_length,List.take_of_length_le hl]at q3;rw[if_neg (by simp),List.drop_length,List.append_nil];generalize takeUp B32 t xs ys xs.length=p at*;obtain⟨pl,c0,l0⟩:=p;dsimp only at*;have hlt:=dval_lt q1;rw[q2]at hlt;have hback:∀b,b=P.i_takeAway_b3->0<c0+l0->loopP b (xs.length+1) ((0:Int),((pl.length:Int),((0:Int),(pl,(ys,())))))=(if dval B32 ys*t<=dval B32 xs then some (false,fd B32 xs.length (dval B32 xs - dval B32 ys*t),())
   else some (true,fd B32 xs.length (dval B32 xs+dval B32 ys - dval B32 ys*t),())):=by
   intro b hb hpos;have hge:B32^xs.length*1<=B32^xs.length*(c0+l0):=Nat.mul_le_mul_left _ hpos;rw[if_neg (by omega)];have:=takeBack b hb pl ys q1 hy (by omega) (by omega);rw[q2]at this;rw[q2,this];congr 2;have e1:dval B32 pl+dval B32 ys=(dval B32 xs+dval B32 ys - dval B32 ys*t)+B32^xs.length*(c0+l0):=by omega
   rw[e1,<-fd_mod B32 xs.length (_+_),Nat.add_mul_mod_self_left,fd_mod]
  by_cases hl0:l0=0
  ·subst hl0;rw[if_pos (by rfl)]
   by_cases hc0:c0=0
   ·subst hc0;rw[if_pos (by rfl),if_pos (by omega)];congr 2;have:pl=fd B32 xs.length (dval B32 xs - dval B32 ys*t):=fd_eq B32_le q1 q2 (by omega);rw[this]
   ·rw[if_neg (by simp;omega)];exact hback _ rfl (by omega)
  ·rw[if_neg (by simp;omega)];exact hback _ rfl (by omega)) (by omega)
 exact key
end Go.Cm
end
