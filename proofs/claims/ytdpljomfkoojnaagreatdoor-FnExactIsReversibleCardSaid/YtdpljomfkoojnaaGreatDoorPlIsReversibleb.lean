import Derived.Test.YtdpljomfkoojnaaGreatDoorPlIsReversiblea
set_option linter.unusedVariables false
set_option maxRecDepth 100000
noncomputable section
namespace Go.Cm
open IntKind (wrap)
abbrev P.s_l01Digits_b0 (x1:Int×ByteArray×Unit) (g2:Int×ByteArray×Unit->Option (Bool×Unit)):Option (Bool×Unit):=
 (fun(a:Int) (b:ByteArray)=>if decide (a<(b.size:Int))then if decide (0<=a)then if decide (a<(b.size:Int))then if decide ((byteAt b a)<48)then some (false,())else if decide (0<=a)then if decide (a<(b.size:Int))then if decide ((byteAt b a)>57)then some (false,())else g2 (wrap .i64 (a+1),b,())else none else none else none else none else if decide ((b.size:Int)>=1)then if decide ((b.size:Int)<=200)then if(b.size:Int)==1 then some (true,())else if decide (0<(b.size:Int))then some ((byteAt b 0) != 48,())else none else some (false,())else some (false,())) x1.1 x1.2.1
def P.s_l01Digits (k:Nat) (x:ByteArray×Unit):Option (Bool×Unit):=
 loopP P.s_l01Digits_b0 k (0,x.1,())
def S.s_l01Digits (x:(ByteArray×Unit)):(Option (Bool×Unit)):=if x.1.size<=281474976710656 then some (okN x.1.data.toList,())else none
theorem S.s_l01Digits_ok (x r) (h:S.s_l01Digits x=some r):∃k,P.s_l01Digits k x=some r:=by
 obtain⟨s,u⟩:=x;unfold S.s_l01Digits at h;dsimp only at h;split at h
 case isFalse=>cases h
 rename_i hsz;cases h;have hs:s.size=s.data.toList.length:=by rw[Array.length_toList];rfl
 rw[hs]at hsz;refine⟨s.data.toList.length+1,?_⟩;unfold P.s_l01Digits;dsimp only;generalize hL:s.data.toList=l at*;have key:=loop_up0 (k:=l.length+1) (b:=P.s_l01Digits_b0) (n:=l.length) (st:=fun i=>((i:Int),s,())) (F:=fun i=>some (allD (l.drop i)&&okR l,())) (fun i g hi hg=>by
  unfold P.s_l01Digits_b0;dsimp only at hg ⊢;have e1:(i:Int)<(l.length:Int):=by omega
  have e2:(0:Int)<=(i:Int):=by omega
  have hb:byteAt s (i:Int)=(l[i].toNat:Int):=by
   unfold byteAt;rw[hL,getD_cast l i _ hi]
  have ha:allD (l.drop i)=(isD l[i]&&allD (l.drop (i+1))):=by
   rw[List.drop_eq_getElem_cons hi];rfl
  rw[hs,hb,wr (x:=(i:Int)+1) (by omega) (by omega),ha];simp only[e1,e2,decide_true,if_true];unfold isD
  by_cases c1:48<=l[i].toNat
  ·rw[if_neg (by simp;omega)]
   by_cases c2:l[i].toNat<=57
   ·rw[if_neg (by simp;omega),decide_eq_true ⟨c1,c2⟩,Bool.true_and];exact hg
   ·rw[if_pos (decide_eq_true (by omega)),decide_eq_false (fun q=>c2 q.2)];rfl
  ·rw[if_pos (decide_eq_true (by omega)),decide_eq_false (fun q=>c1 q.1)];rfl) (fun g=>by
  unfold P.s_l01Digits_b0;dsimp only;rw[hs,if_neg (by simp),List.drop_length,show allD []=true from rfl,Bool.true_and];unfold okR
  by_cases h1:l=[]
  ·subst h1;rfl
  ·have hpos:0<l.length:=List.length_pos_iff.2 h1;have d1:(l.length:Int)>=1:=by omega
   rw[if_pos (decide_eq_true d1),decide_eq_true h1,Bool.true_and]
   by_cases h2:l.length<=200
   ·have d2:(l.length:Int)<=200:=by omega
    rw[if_pos (decide_eq_true d2),decide_eq_true h2,Bool.true_and]
    by_cases h3:l.length=1
    ·have d3:(((l.length:Nat):Int)==(1:Int))=true:=by simp [h3]
     rw[if_pos d3,decide_eq_true h3,Bool.true_or]
    ·have d3:¬(((l.length:Nat):Int)==(1:Int))=true:=by simp;omega
     have d4:(0:Int)<(l.length:Int):=by omega
     rw[if_neg d3,if_pos (decide_eq_true d4),decide_eq_false h3,Bool.false_or];have hb:byteAt s 0=(l[0].toNat:Int):=by
      unfold byteAt;rw[hL];simp [hpos]
     have hh:l.head? =some l[0]:=by
      cases l with
      |nil=>simp at h1
      |cons c r=>rfl
     rw[hb,hh]
     by_cases c1:l[0]=48
     ·rw[c1];rfl
     ·have:¬((l[0].toNat:Int)=48):=by
       intro q;apply c1;apply UInt8.toNat_inj.1;show _=48;omega
      rw[decide_eq_true (by simpa using c1)];simpa [bne]using this
   ·have d2:¬(l.length:Int)<=200:=by omega
    rw[if_neg (by simpa using d2),decide_eq_false h2,Bool.false_and]) (by omega)
 rw[List.drop_zero]at key;exact key
def P.s_l01Parse (k:Nat) (x:ByteArray×Unit):Option ((RB×Bool)×Unit):=
 if decide ((x.1.size:Int)>0)then if decide (0<(x.1.size:Int))then if(byteAt x.1 0)==45 then if decide (0<=(x.1.size:Int))then if decide ((x.1.size:Int)<=(x.1.size:Int))then if decide (1<=(x.1.size:Int))then(S.s_l01Cut (ByteArray.extract x.1 1 (Int.toNat (x.1.size:Int)),47,())).bind fun y0=>if decide ((y0.1.length:Int)>2)then some (((false,[],[]),false),())else if decide (0<(y0.1.length:Int))then(S.s_l01Digits (y0.1.getD 0 (bs []),())).bind fun y1=>if !y1.1 then some (((false,[],[]),false),())else if decide (0<(y0.1.length:Int))then(S.s_l01NatRead (y0.1.getD 0 (bs []),())).bind fun y2=>if(byteAt x.1 0)==45 then if(y2.1.length:Int)==0 then some (((false,[],[]),false),())else if(y0.1.length:Int)==1 then some ((((byteAt x.1 0)==45,y2.1,[1]),true),())else if decide (1<(y0.1.length:Int))then(S.s_l01Digits (y0.1.getD 1 (bs []),())).bind fun y3=>if !y3.1 then some (((false,[],[]),false),())else if decide (1<(y0.1.length:Int))then(S.s_l01NatRead (y0.1.getD 1 (bs []),())).bind fun y4=>(S.s_l01Cmp (y4.1,[1],())).bind fun y5=>if decide (y5.1<=0)then some (((false,[],[]),false),())else(S.s_l01Gcd (y2.1,y4.1,())).bind fun y6=>(S.s_l01Cmp (y6.1,[1],())).bind fun y7=>if y7.1 != 0 then some (((false,[],[]),false),())else some ((((byteAt x.1 0)==45,y2.1,y4.1),true),())else none else none else if(y0.1.length:Int)==1 then some ((((byteAt x.1 0)==45,y2.1,[1]),true),())else if decide (1<(y0.1.length:Int))then(S.s_l01Digits (y0.1.getD 1 (bs []),())).bind fun y8=>if !y8.1 then some (((false,[],[]),false),())else if decide (1<(y0.1.length:Int))then(S.s_l01NatRead (y0.1.getD 1 (bs []),())).bind fun y9=>(S.s_l01Cmp (y9.1,[1],())).bind fun y10=>if decide (y10.1<=0)then some (((false,[],[]),false),())else(S.s_l01Gcd (y2.1,y9.1,())).bind fun y11=>(S.s_l01Cmp (y11.1,[1],())).bind fun y12=>if y12.1 != 0 then some (((false,[],[]),false),())else some ((((byteAt x.1 0)==45,y2.1,y9.1),true),())else none else none else none else none else none else none else none else(S.s_l01Cut (x.1,47,())).bind fun y13=>if decide ((y13.1.length:Int)>2)then some (((false,[],[]),false),())else if decide (0<(y13.1.length:Int))then(S.s_l01Digits (y13.1.getD 0 (bs []),())).bind fun y14=>if !y14.1 then some (((false,[],[]),false),())else if decide (0<(y13.1.length:Int))then(S.s_l01NatRead (y13.1.getD 0 (bs []),())).bind fun y15=>if(byteAt x.1 0)==45 then if(y15.1.length:Int)==0 then some (((false,[],[]),false),())else if(y13.1.length:Int)==1 then some ((((byteAt x.1 0)==45,y15.1,[1]),true),())else if decide (1<(y13.1.length:Int))then(S.s_l01Digits (y13.1.getD 1 (bs []),())).bind fun y16=>if !y16.1 then some (((false,[],[]),false),())else if decide (1<(y13.1.length:Int))then(S.s_l01NatRead (y13.1.getD 1 (bs []),())).bind fun y17=>(S.s_l01Cmp (y17.1,[1],())).bind fun y18=>if decide (y18.1<=0)then some (((false,[],[]),false),())else(S.s_l01Gcd (y15.1,y17.1,())).bind fun y19=>(S.s_l01Cmp (y19.1,[1],())).bind fun y20=>if y20.1 != 0 then some (((false,[],[]),false),())else some ((((byteAt x.1 0)==45,y15.1,y17.1),true),())else none else none else if(y13.1.length:Int)==1 then some ((((byteAt x.1 0)==45,y15.1,[1]),true),())else if decide (1<(y13.1.length:Int))then(S.s_l01Digits (y13.1.getD 1 (bs []),())).bind fun y21=>if !y21.1 then some (((false,[],[]),false),())else if decide (1<(y13.1.length:Int))then(S.s_l01NatRead (y13.1.getD 1 (bs []),())).bind fun y22=>(S.s_l01Cmp (y22.1,[1],())).bind fun y23=>if decide (y23.1<=0)then some (((false,[],[]),false),())else(S.s_l01Gcd (y15.1,y22.1,())).bind fun y24=>(S.s_l01Cmp (y24.1,[1],())).bind fun y25=>if y25.1 != 0 then some (((false,[],[]),false),())else some ((((byteAt x.1 0)==45,y15.1,y22.1),true),())else none else none else none else none else none else(S.s_l01Cut (x.1,47,())).bind fun y26=>if decide ((y26.1.length:Int)>2)then some (((false,[],[]),false),())else if decide (0<(y26.1.length:Int))then(S.s_l01Digits (y26.1.getD 0 (bs []),())).bind fun y27=>if !y27.1 then some (((false,[],[]),false),())else if decide (0<(y26.1.length:Int))then(S.s_l01NatRead (y26.1.getD 0 (bs []),())).bind fun y28=>if(y26.1.length:Int)==1 then some (((false,y28.1,[1]),true),())else if decide (1<(y26.1.length:Int))then(S.s_l01Digits (y26.1.getD 1 (bs []),())).bind fun y29=>if !y29.1 then some (((false,[],[]),false),())else if decide (1<(y26.1.length:Int))then(S.s_l01NatRead (y26.1.getD 1 (bs []),())).bind fun y30=>(S.s_l01Cmp (y30.1,[1],())).bind fun y31=>if decide (y31.1<=0)then some (((false,[],[]),false),())else(S.s_l01Gcd (y28.1,y30.1,())).bind fun y32=>(S.s_l01Cmp (y32.1,[1],())).bind fun y33=>if y33.1 != 0 then some (((false,[],[]),false),())else some (((false,y28.1,y30.1),true),())else none else none else none else none
theorem pp_sign (T:ByteArray) (n:Bool) (hsz:T.size<=1000000):
  (Option.bind (S.s_l01Cut (T,((47:Int),()))) (fun(z0:((List ByteArray)×Unit))=>(if((decide (((List.length z0.1):Int)>(2:Int)))=true)then(some (((false,(([]:List Int),([]:List Int))),false),()))
 else(if((decide ((0:Int)<((List.length z0.1):Int)))=true)then(Option.bind (S.s_l01Digits ((List.getD z0.1 (0:Nat) (Go.Cm.bs [])),())) (fun(z1:(Bool×Unit))=>(if((!z1.1)=true)then(some (((false,(([]:List Int),([]:List Int))),false),()))
 else(if((decide ((0:Int)<((List.length z0.1):Int)))=true)then(Option.bind (S.s_l01NatRead ((List.getD z0.1 (0:Nat) (Go.Cm.bs [])),())) (fun(z2:((List Int)×Unit))=>(if(n=true)then(if((((List.length z2.1):Int)==(0:Int))=true)then(some (((false,(([]:List Int),([]:List Int))),false),()))
 else(if((((List.length z0.1):Int)==(1:Int))=true)then(some (((n,(z2.1,((1:Int)::([]:List Int)))),true),()))
 else(if((decide ((1:Int)<((List.length z0.1):Int)))=true)then(Option.bind (S.s_l01Digits ((List.getD z0.1 (1:Nat) (Go.Cm.bs [])),())) (fun(z3:(Bool×Unit))=>(if((!z3.1)=true)then(some (((false,(([]:List Int),([]:List Int))),false),()))
 else(if((decide ((1:Int)<((List.length z0.1):Int)))=true)then(Option.bind (S.s_l01NatRead ((List.getD z0.1 (1:Nat) (Go.Cm.bs [])),())) (fun(z4:((List Int)×Unit))=>(Option.bind (S.s_l01Cmp (z4.1,(((1:Int)::([]:List Int)),()))) (fun(z5:(Int×Unit))=>(if((decide (z5.1<=(0:Int)))=true)then(some (((false,(([]:List Int),([]:List Int))),false),()))
 else(Option.bind (S.s_l01Gcd (z2.1,(z4.1,()))) (fun(z6:((List Int)×Unit))=>(Option.bind (S.s_l01Cmp (z6.1,(((1:Int)::([]:List Int)),()))) (fun(z7:(Int×Unit))=>(if((z7.1 != (0:Int))=true)then(some (((false,(([]:List Int),([]:List Int))),false),()))
 else(some (((n,(z2.1,z4.1)),true),()))))))))))))
 else none))))
 else none)))
 else(if((((List.length z0.1):Int)==(1:Int))=true)then(some (((n,(z2.1,((1:Int)::([]:List Int)))),true),()))
 else(if((decide ((1:Int)<((List.length z0.1):Int)))=true)then(Option.bind (S.s_l01Digits ((List.getD z0.1 (1:Nat) (Go.Cm.bs [])),())) (fun(z8:(Bool×Unit))=>(if((!z8.1)=true)then(some (((false,(([]:List Int),([]:List Int))),false),()))
 else(if((decide ((1:Int)<((List.length z0.1):Int)))=true)then(Option.bind (S.s_l01NatRead ((List.getD z0.1 (1:Nat) (Go.Cm.bs [])),())) (fun(z9:((List Int)×Unit))=>(Option.bind (S.s_l01Cmp (z9.1,(((1:Int)::([]:List Int)),()))) (fun(z10:(Int×Unit))=>(if((decide (z10.1<=(0:Int)))=true)then(some (((false,(([]:List Int),([]:List Int))),false),()))
 else(Option.bind (S.s_l01Gcd (z2.1,(z9.1,()))) (fun(z11:((List Int)×Unit))=>(Option.bind (S.s_l01Cmp (z11.1,(((1:Int)::([]:List Int)),()))) (fun(z12:(Int×Unit))=>(if((z12.1 != (0:Int))=true)then(some (((false,(([]:List Int),([]:List Int))),false),()))
 else(some (((n,(z2.1,z9.1)),true),()))))))))))))
 else none))))
 else none)))))
 else none))))
 else none))))=some ((rp B10 (rdBody n (cutP 47 T.data.toList)).1,(rdBody n (cutP 47 T.data.toList)).2),()):=by
 have hbad:((false,(([]:List Int),([]:List Int))),false)=(rp B10 noQ.1,noQ.2):=by
  unfold noQ rp;dsimp only;rw[nd_zero B10_le]
 have hcut:S.s_l01Cut (T,(47,()))=some ((cutUp T 47 (T.size+1)).1,()):=by
  unfold S.s_l01Cut;exact if_pos hsz
 have hp:(cutUp T 47 (T.size+1)).1.map (·.data.toList)=pieces 47 T.data.toList:=cutUp_pieces T 47;have hlen:∀A∈(cutUp T 47 (T.size+1)).1,A.data.toList.length<=1000000:=by
  intro A hA;have h1:=pieces_len 47 T.data.toList A.data.toList (by rw[<-hp];exact List.mem_map_of_mem hA);have h2:T.size=T.data.toList.length:=by rw[Array.length_toList];rfl
  omega
 rw[hcut,Option.bind_some,hbad];generalize (cutUp T 47 (T.size+1)).1=ps at*;rw[pieces_cutP]at hp;generalize hc:cutP 47 T.data.toList=c at*;have hDig:∀A∈ps,S.s_l01Digits (A,())=some (okN A.data.toList,()):=by
  intro A hA;have h1:=hlen A hA;have h2:A.size=A.data.toList.length:=by rw[Array.length_toList];rfl
  unfold S.s_l01Digits;exact if_pos (by dsimp only;omega)
 have hRead:∀A∈ps,okN A.data.toList=true->S.s_l01NatRead (A,())=some (nd B10 (dv A.data.toList),()):=by
  intro A hA hok;have h1:=okN_allD hok;unfold S.s_l01NatRead;exact if_pos ⟨h1.1,by dsimp only;omega⟩
 have hz:∀m:Nat,(((nd B10 m).length:Int)==0)=decide (m=0):=by
  intro m;have:=canon_nil B10_le (canon_nd B10_le m);rw[dval_nd B10_le]at this
  by_cases h0:m=0
  ·rw[this.2 h0,h0];rfl
  ·have hne:=fun q=>h0 (this.1 q)
   rw[decide_eq_false h0];simpa using hne
 have hone:([1]:List Int)=nd B10 1:=(nd_one B10_le).symm;unfold rdBody;cases hf:c.2.2
 ·
  rw[hf,if_neg (by decide)]at hp;obtain⟨A,rfl,hA⟩:∃A,ps=[A]/\A.data.toList=c.1:=by
   exact List.map_eq_singleton_iff.1 hp
  have hd:=hDig A (by simp);have hr:=hRead A (by simp);rw[hA]at hd hr;have l1:¬(((List.length [A]:Nat):Int)>2):=by simp
  have l2:(0:Int)<((List.length [A]:Nat):Int):=by simp
  have l3:(((List.length [A]:Nat):Int)==1)=true:=rfl;simp only[l1,l2,l3,decide_true,decide_false,if_true,if_false,Bool.false_eq_true,List.getD_cons_zero];rw[hd,Option.bind_some];dsimp only;cases hok:okN c.1
  ·rw[if_pos (show(!false)=true by rfl),if_neg (fun q=>by cases q.1)]
  ·rw[if_neg (show ¬((!true)=true) by decide),hr hok,Option.bind_some];dsimp only;rw[hz];cases n
   ·rw[if_neg (show ¬((false:Bool)=true) by decide),if_pos ⟨rfl,fun q=>by cases q.1⟩,hone];rfl
   ·rw[if_pos rfl]
    by_cases h0:dv c.1=0
    ·rw[if_pos (decide_eq_true h0),if_neg (fun q=>q.2 ⟨rfl,h0⟩)]
    ·rw[if_neg (by simpa using h0),if_pos ⟨rfl,fun q=>h0 q.2⟩,hone];rfl
 ·rw[hf,if_pos rfl,pieces_cutP]at hp;cases hf2:(cutP 47 c.2.1).2.2
  ·rw[hf2,if_neg (by decide)]at hp;have hy:(cutP 47 c.2.1).1=c.2.1:=((cutP_index 47 c.2.1).1 hf2).2.1;rw[hy]at hp;obtain⟨A,B,rfl,hA,hB⟩:∃A B,ps=[A,B]/\A.data.toList=c.1/\B.data.toList=c.2.1:=by
    obtain⟨A,q,rfl,hA,hq⟩:=List.map_eq_cons_iff.1 hp;obtain⟨B,rfl,hB⟩:=List.map_eq_singleton_iff.1 hq;exact⟨A,B,rfl,hA,hB⟩
   have hd:=hDig A (by simp);have hr:=hRead A (by simp);have hd2:=hDig B (by simp);have hr2:=hRead B (by simp);rw[hA]at hd hr;rw[hB]at hd2 hr2;have l1:¬(((List.length [A,B]:Nat):Int)>2):=by simp
   have l2:(0:Int)<((List.length [A,B]:Nat):Int):=by simp
   have l3:(((List.length [A,B]:Nat):Int)==1)=false:=rfl;have l4:(1:Int)<((List.length [A,B]:Nat):Int):=by simp
   simp only[l1,l2,l3,l4,decide_true,decide_false,if_true,if_false,Bool.false_eq_true,List.getD_cons_zero,List.getD_cons_succ];rw[hd,Option.bind_some];dsimp only;cases hok:okN c.1
   ·rw[if_pos (show(!false)=true by rfl),if_neg (fun q=>by cases q.1)]
   ·rw[if_neg (show ¬((!true)=true) by decide),hr hok,Option.bind_some];dsimp only;have la:=nd_len200 (B:=B10) (by decide) (okN_lt hok);have hrest:∀(m:Bool),¬(m=true/\dv c.1=0)->(Option.bind (S.s_l01Digits (B,())) (fun(w0:(Bool×Unit))=>(if((!w0.1)=true)then(some ((rp B10 noQ.1,noQ.2),()))
 else(Option.bind (S.s_l01NatRead (B,())) (fun(w1:((List Int)×Unit))=>(Option.bind (S.s_l01Cmp (w1.1,(((1:Int)::([]:List Int)),()))) (fun(w2:(Int×Unit))=>(if((decide (w2.1<=(0:Int)))=true)then(some ((rp B10 noQ.1,noQ.2),()))
 else(Option.bind (S.s_l01Gcd (nd B10 (dv c.1),(w1.1,()))) (fun(w3:((List Int)×Unit))=>(Option.bind (S.s_l01Cmp (w3.1,(((1:Int)::([]:List Int)),()))) (fun(w4:(Int×Unit))=>(if((w4.1 != (0:Int))=true)then(some ((rp B10 noQ.1,noQ.2),()))
 else(some (((m,(nd B10 (dv c.1),w1.1)),true),())))))))))))))))=some ((rp B10 (if okN c.2.1=true/\1<dv c.2.1/\Nat.gcd (dv c.1) (dv c.2.1)=1 then((m,(dv c.1,dv c.2.1)),true)else noQ).1,(if okN c.2.1=true/\1<dv c.2.1/\Nat.gcd (dv c.1) (dv c.2.1)=1 then((m,(dv c.1,dv c.2.1)),true)else noQ).2),()):=by
     intro m hm;rw[hd2,Option.bind_some];dsimp only;cases hb:okN c.2.1
     ·have hx:¬((false:Bool)=true/\1<dv c.2.1/\Nat.gcd (dv c.1) (dv c.2.1)=1):=fun q=>by cases q.1
      rw[if_pos (show(!false)=true by rfl),if_neg hx]
     ·have lb:=nd_len200 (B:=B10) (by decide) (okN_lt hb);rw[if_neg (show ¬((!true)=true) by decide),hr2 hb,Option.bind_some];dsimp only;have e1:S.s_l01Cmp (nd B10 (dv c.2.1),([1],()))=some (cmpN (dv c.2.1) 1,()):=by
       unfold S.s_l01Cmp;dsimp only;rw[if_pos ⟨canon_nd B10_le _,canon_one B10_le,by omega⟩,dval_nd B10_le,dval_one]
      have e2:S.s_l01Gcd (nd B10 (dv c.1),(nd B10 (dv c.2.1),()))=some (nd B10 (Nat.gcd (dv c.1) (dv c.2.1)),()):=by
       unfold S.s_l01Gcd;dsimp only;rw[if_pos ⟨canon_nd B10_le _,canon_nd B10_le _,by omega,by omega⟩,dval_nd B10_le,dval_nd B10_le]
      rw[e1,Option.bind_some];dsimp only
      by_cases h1:1<dv c.2.1
      ·have hcm:¬(cmpN (dv c.2.1) 1<=0):=by
        have:=(cmpN_gt (a:=dv c.2.1) (b:=1)).2 h1;omega
       have lg:(nd B10 (Nat.gcd (dv c.1) (dv c.2.1))).length<=200:=Nat.le_trans (nd_shorter' B10_le (Nat.le_of_dvd (by omega) (Nat.gcd_dvd_right _ _))) lb;have e3:S.s_l01Cmp (nd B10 (Nat.gcd (dv c.1) (dv c.2.1)),([1],()))=some (cmpN (Nat.gcd (dv c.1) (dv c.2.1)) 1,()):=by
        unfold S.s_l01Cmp;dsimp only;rw[if_pos ⟨canon_nd B10_le _,canon_one B10_le,by omega⟩,dval_nd B10_le,dval_one]
       rw[if_neg (by simpa using hcm),e2,Option.bind_some];dsimp only;rw[e3,Option.bind_some];dsimp only
       by_cases hg:Nat.gcd (dv c.1) (dv c.2.1)=1
       ·rw[if_neg (by simpa using cmpN_zero.2 hg),if_pos ⟨rfl,h1,hg⟩];rfl
       ·rw[if_pos (by simpa using fun q=>hg (cmpN_zero.1 q)),if_neg (fun q=>hg q.2.2)]
      ·have hcm:cmpN (dv c.2.1) 1<=0:=by
        have h2:¬(cmpN (dv c.2.1) 1>0):=fun q=>h1 ((cmpN_gt (a:=dv c.2.1) (b:=1)).1 q)
        omega
       rw[if_pos (decide_eq_true hcm),if_neg (fun q=>h1 q.2.1)]
    rw[hz];cases n
    ·have hm:¬((false:Bool)=true/\dv c.1=0):=fun q=>by cases q.1
     rw[if_neg (show ¬((false:Bool)=true) by decide),if_pos ⟨rfl,hm⟩];exact hrest false hm
    ·rw[if_pos rfl]
     by_cases h0:dv c.1=0
     ·rw[if_pos (decide_eq_true h0),if_neg (fun q=>q.2 ⟨rfl,h0⟩)]
     ·have hm:¬((true:Bool)=true/\dv c.1=0):=fun q=>h0 q.2
      rw[if_neg (by simpa using h0),if_pos ⟨rfl,hm⟩];exact hrest true hm
  ·
   rw[hf2,if_pos rfl]at hp;have hl:ps.length=2+(pieces 47 (cutP 47 c.2.1).2.1).length:=by
    have:=congrArg List.length hp;simp at this;omega
   have hl2:(pieces 47 (cutP 47 c.2.1).2.1).length≠0:=fun q=>pieces_ne 47 _ (List.eq_nil_of_length_eq_zero q)
   have l1:((ps.length:Nat):Int)>2:=by omega
   have hx:¬(okN c.2.1=true/\1<dv c.2.1/\Nat.gcd (dv c.1) (dv c.2.1)=1):=fun q=>by
    have:=cutP_allD (okN_allD q.1).1;rw[hf2]at this;cases this
   rw[if_pos (decide_eq_true l1),if_pos rfl,if_neg hx];split<;>rfl
theorem pp_plain (T:ByteArray) (hsz:T.size<=1000000):
  (Option.bind (S.s_l01Cut (T,((47:Int),()))) (fun(z0:((List ByteArray)×Unit))=>(if((decide (((List.length z0.1):Int)>(2:Int)))=true)then(some (((false,(([]:List Int),([]:List Int))),false),()))
 else(if((decide ((0:Int)<((List.length z0.1):Int)))=true)then(Option.bind (S.s_l01Digits ((List.getD z0.1 (0:Nat) (Go.Cm.bs [])),())) (fun(z1:(Bool×Unit))=>(if((!z1.1)=true)then(some (((false,(([]:List Int),([]:List Int))),false),()))
 else(if((decide ((0:Int)<((List.length z0.1):Int)))=true)then(Option.bind (S.s_l01NatRead ((List.getD z0.1 (0:Nat) (Go.Cm.bs [])),())) (fun(z2:((List Int)×Unit))=>(if((((List.length z0.1):Int)==(1:Int))=true)then(some (((false,(z2.1,((1:Int)::([]:List Int)))),true),()))
 else(if((decide ((1:Int)<((List.length z0.1):Int)))=true)then(Option.bind (S.s_l01Digits ((List.getD z0.1 (1:Nat) (Go.Cm.bs [])),())) (fun(z3:(Bool×Unit))=>(if((!z3.1)=true)then(some (((false,(([]:List Int),([]:List Int))),false),()))
 else(if((decide ((1:Int)<((List.length z0.1):Int)))=true)then(Option.bind (S.s_l01NatRead ((List.getD z0.1 (1:Nat) (Go.Cm.bs [])),())) (fun(z4:((List Int)×Unit))=>(Option.bind (S.s_l01Cmp (z4.1,(((1:Int)::([]:List Int)),()))) (fun(z5:(Int×Unit))=>(if((decide (z5.1<=(0:Int)))=true)then(some (((false,(([]:List Int),([]:List Int))),false),()))
 else(Option.bind (S.s_l01Gcd (z2.1,(z4.1,()))) (fun(z6:((List Int)×Unit))=>(Option.bind (S.s_l01Cmp (z6.1,(((1:Int)::([]:List Int)),()))) (fun(z7:(Int×Unit))=>(if((z7.1 != (0:Int))=true)then(some (((false,(([]:List Int),([]:List Int))),false),()))
 else(some (((false,(z2.1,z4.1)),true),()))))))))))))
 else none))))
 else none))))
 else none))))
 else none))))=some ((rp B10 (rdBody false (cutP 47 T.data.toList)).1,(rdBody false (cutP 47 T.data.toList)).2),()):=by
 have hbad:((false,(([]:List Int),([]:List Int))),false)=(rp B10 noQ.1,noQ.2):=by
  unfold noQ rp;dsimp only;rw[nd_zero B10_le]
 have hcut:S.s_l01Cut (T,(47,()))=some ((cutUp T 47 (T.size+1)).1,()):=by
  unfold S.s_l01Cut;exact if_pos hsz
 have hp:(cutUp T 47 (T.size+1)).1.map (·.data.toList)=pieces 47 T.data.toList:=cutUp_pieces T 47;have hlen:∀A∈(cutUp T 47 (T.size+1)).1,A.data.toList.length<=1000000:=by
  intro A hA;have h1:=pieces_len 47 T.data.toList A.data.toList (by rw[<-hp];exact List.mem_map_of_mem hA);have h2:T.size=T.data.toList.length:=by rw[Array.length_toList];rfl
  omega
 rw[hcut,Option.bind_some,hbad];generalize (cutUp T 47 (T.size+1)).1=ps at*;rw[pieces_cutP]at hp;generalize hc:cutP 47 T.data.toList=c at*;have hDig:∀A∈ps,S.s_l01Digits (A,())=some (okN A.data.toList,()):=by
  intro A hA;have h1:=hlen A hA;have h2:A.size=A.data.toList.length:=by rw[Array.length_toList];rfl
  unfold S.s_l01Digits;exact if_pos (by dsimp only;omega)
 have hRead:∀A∈ps,okN A.data.toList=true->S.s_l01NatRead (A,())=some (nd B10 (dv A.data.toList),()):=by
  intro A hA hok;have h1:=okN_allD hok;unfold S.s_l01NatRead;exact if_pos ⟨h1.1,by dsimp only;omega⟩
 have hz:∀m:Nat,(((nd B10 m).length:Int)==0)=decide (m=0):=by
  intro m;have:=canon_nil B10_le (canon_nd B10_le m);rw[dval_nd B10_le]at this
  by_cases h0:m=0
  ·rw[this.2 h0,h0];rfl
  ·have hne:=fun q=>h0 (this.1 q)
   rw[decide_eq_false h0];simpa using hne
 have hone:([1]:List Int)=nd B10 1:=(nd_one B10_le).symm;unfold rdBody;cases hf:c.2.2
 ·
  rw[hf,if_neg (by decide)]at hp;obtain⟨A,rfl,hA⟩:∃A,ps=[A]/\A.data.toList=c.1:=by
   exact List.map_eq_singleton_iff.1 hp
  have hd:=hDig A (by simp);have hr:=hRead A (by simp);rw[hA]at hd hr;have l1:¬(((List.length [A]:Nat):Int)>2):=by simp
  have l2:(0:Int)<((List.length [A]:Nat):Int):=by simp
  have l3:(((List.length [A]:Nat):Int)==1)=true:=rfl;simp only[l1,l2,l3,decide_true,decide_false,if_true,if_false,Bool.false_eq_true,List.getD_cons_zero];rw[hd,Option.bind_some];dsimp only;cases hok:okN c.1
  ·rw[if_pos (show(!false)=true by rfl),if_neg (fun q=>by cases q.1)]
  ·rw[if_neg (show ¬((!true)=true) by decide),hr hok,Option.bind_some];dsimp only;rw[if_pos ⟨rfl,fun q=>by cases q.1⟩,hone];rfl
 ·rw[hf,if_pos rfl,pieces_cutP]at hp;cases hf2:(cutP 47 c.2.1).2.2
  ·rw[hf2,if_neg (by decide)]at hp;have hy:(cutP 47 c.2.1).1=c.2.1:=((cutP_index 47 c.2.1).1 hf2).2.1;rw[hy]at hp;obtain⟨A,B,rfl,hA,hB⟩:∃A B,ps=[A,B]/\A.data.toList=c.1/\B.data.toList=c.2.1:=by
    obtain⟨A,q,rfl,hA,hq⟩:=List.map_eq_cons_iff.1 hp;obtain⟨B,rfl,hB⟩:=List.map_eq_singleton_iff.1 hq;exact⟨A,B,rfl,hA,hB⟩
   have hd:=hDig A (by simp);have hr:=hRead A (by simp);have hd2:=hDig B (by simp);have hr2:=hRead B (by simp);rw[hA]at hd hr;rw[hB]at hd2 hr2;have l1:¬(((List.length [A,B]:Nat):Int)>2):=by simp
   have l2:(0:Int)<((List.length [A,B]:Nat):Int):=by simp
   have l3:(((List.length [A,B]:Nat):Int)==1)=false:=rfl;have l4:(1:Int)<((List.length [A,B]:Nat):Int):=by simp
   simp only[l1,l2,l3,l4,decide_true,decide_false,if_true,if_false,Bool.false_eq_true,List.getD_cons_zero,List.getD_cons_succ];rw[hd,Option.bind_some];dsimp only;cases hok:okN c.1
   ·rw[if_pos (show(!false)=true by rfl),if_neg (fun q=>by cases q.1)]
   ·rw[if_neg (show ¬((!true)=true) by decide),hr hok,Option.bind_some];dsimp only;have la:=nd_len200 (B:=B10) (by decide) (okN_lt hok);have hrest:∀(m:Bool),¬(m=true/\dv c.1=0)->(Option.bind (S.s_l01Digits (B,())) (fun(w0:(Bool×Unit))=>(if((!w0.1)=true)then(some ((rp B10 noQ.1,noQ.2),()))
 else(Option.bind (S.s_l01NatRead (B,())) (fun(w1:((List Int)×Unit))=>(Option.bind (S.s_l01Cmp (w1.1,(((1:Int)::([]:List Int)),()))) (fun(w2:(Int×Unit))=>(if((decide (w2.1<=(0:Int)))=true)then(some ((rp B10 noQ.1,noQ.2),()))
 else(Option.bind (S.s_l01Gcd (nd B10 (dv c.1),(w1.1,()))) (fun(w3:((List Int)×Unit))=>(Option.bind (S.s_l01Cmp (w3.1,(((1:Int)::([]:List Int)),()))) (fun(w4:(Int×Unit))=>(if((w4.1 != (0:Int))=true)then(some ((rp B10 noQ.1,noQ.2),()))
 else(some (((m,(nd B10 (dv c.1),w1.1)),true),())))))))))))))))=some ((rp B10 (if okN c.2.1=true/\1<dv c.2.1/\Nat.gcd (dv c.1) (dv c.2.1)=1 then((m,(dv c.1,dv c.2.1)),true)else noQ).1,(if okN c.2.1=true/\1<dv c.2.1/\Nat.gcd (dv c.1) (dv c.2.1)=1 then((m,(dv c.1,dv c.2.1)),true)else noQ).2),()):=by
     intro m hm;rw[hd2,Option.bind_some];dsimp only;cases hb:okN c.2.1
     ·have hx:¬((false:Bool)=true/\1<dv c.2.1/\Nat.gcd (dv c.1) (dv c.2.1)=1):=fun q=>by cases q.1
      rw[if_pos (show(!false)=true by rfl),if_neg hx]
     ·have lb:=nd_len200 (B:=B10) (by decide) (okN_lt hb);rw[if_neg (show ¬((!true)=true) by decide),hr2 hb,Option.bind_some];dsimp only;have e1:S.s_l01Cmp (nd B10 (dv c.2.1),([1],()))=some (cmpN (dv c.2.1) 1,()):=by
       unfold S.s_l01Cmp;dsimp only;rw[if_pos ⟨canon_nd B10_le _,canon_one B10_le,by omega⟩,dval_nd B10_le,dval_one]
      have e2:S.s_l01Gcd (nd B10 (dv c.1),(nd B10 (dv c.2.1),()))=some (nd B10 (Nat.gcd (dv c.1) (dv c.2.1)),()):=by
       unfold S.s_l01Gcd;dsimp only;rw[if_pos ⟨canon_nd B10_le _,canon_nd B10_le _,by omega,by omega⟩,dval_nd B10_le,dval_nd B10_le]
      rw[e1,Option.bind_some];dsimp only
      by_cases h1:1<dv c.2.1
      ·have hcm:¬(cmpN (dv c.2.1) 1<=0):=by
        have:=(cmpN_gt (a:=dv c.2.1) (b:=1)).2 h1;omega
       have lg:(nd B10 (Nat.gcd (dv c.1) (dv c.2.1))).length<=200:=Nat.le_trans (nd_shorter' B10_le (Nat.le_of_dvd (by omega) (Nat.gcd_dvd_right _ _))) lb;have e3:S.s_l01Cmp (nd B10 (Nat.gcd (dv c.1) (dv c.2.1)),([1],()))=some (cmpN (Nat.gcd (dv c.1) (dv c.2.1)) 1,()):=by
        unfold S.s_l01Cmp;dsimp only;rw[if_pos ⟨canon_nd B10_le _,canon_one B10_le,by omega⟩,dval_nd B10_le,dval_one]
       rw[if_neg (by simpa using hcm),e2,Option.bind_some];dsimp only;rw[e3,Option.bind_some];dsimp only
       by_cases hg:Nat.gcd (dv c.1) (dv c.2.1)=1
       ·rw[if_neg (by simpa using cmpN_zero.2 hg),if_pos ⟨rfl,h1,hg⟩];rfl
       ·rw[if_pos (by simpa using fun q=>hg (cmpN_zero.1 q)),if_neg (fun q=>hg q.2.2)]
      ·have hcm:cmpN (dv c.2.1) 1<=0:=by
        have h2:¬(cmpN (dv c.2.1) 1>0):=fun q=>h1 ((cmpN_gt (a:=dv c.2.1) (b:=1)).1 q)
        omega
       rw[if_pos (decide_eq_true hcm),if_neg (fun q=>h1 q.2.1)]
    have hm:¬((false:Bool)=true/\dv c.1=0):=fun q=>by cases q.1
    rw[if_pos ⟨rfl,fun q=>q.1⟩];exact hrest false hm
  ·
   rw[hf2,if_pos rfl]at hp;have hl:ps.length=2+(pieces 47 (cutP 47 c.2.1).2.1).length:=by
    have:=congrArg List.length hp;simp at this;omega
   have hl2:(pieces 47 (cutP 47 c.2.1).2.1).length≠0:=fun q=>pieces_ne 47 _ (List.eq_nil_of_length_eq_zero q)
   have l1:((ps.length:Nat):Int)>2:=by omega
   have hx:¬(okN c.2.1=true/\1<dv c.2.1/\Nat.gcd (dv c.1) (dv c.2.1)=1):=fun q=>by
    have:=cutP_allD (okN_allD q.1).1;rw[hf2]at this;cases this
   rw[if_pos (decide_eq_true l1),if_pos rfl,if_neg hx];split<;>rfl
def S.s_l01Parse (x:(ByteArray×Unit)):(Option ((RB×Bool)×Unit)):=if x.1.size<=1000000 then some ((rp B10 (rdRat x.1.data.toList).1,(rdRat x.1.data.toList).2),())else none
theorem S.s_l01Parse_ok (x r) (h:S.s_l01Parse x=some r):∃k,P.s_l01Parse k x=some r:=by
 obtain⟨s,u⟩:=x;unfold S.s_l01Parse at h;dsimp only at h;split at h
 case isFalse=>cases h
 rename_i hsz;refine⟨0,?_⟩;rw[<-h];unfold P.s_l01Parse;dsimp only;have hs:s.size=s.data.toList.length:=by rw[Array.length_toList];rfl
 unfold rdRat
 by_cases h0:s.data.toList=[]
 ·have l1:¬((s.size:Int)>0):=by rw[hs,h0];simp
  rw[if_neg (by simpa using l1),h0,if_neg (by simp),<-h0];exact pp_plain s hsz
 ·have hpos:0<s.data.toList.length:=List.length_pos_iff.2 h0;have l1:(s.size:Int)>0:=by omega
  have l2:(0:Int)<(s.size:Int):=by omega
  have l3:(0:Int)<=(s.size:Int):=by omega
  have l4:(1:Int)<=(s.size:Int):=by omega
  have hb:byteAt s 0=(s.data.toList[0].toNat:Int):=congrArg (fun c:UInt8=>(c.toNat:Int)) (getD_cast s.data.toList 0 0 hpos);have hh:s.data.toList.head? =some s.data.toList[0]:=by
   generalize s.data.toList=l at*;cases l with
   |nil=>simp at h0
   |cons c r=>rfl
  rw[if_pos (decide_eq_true l1),if_pos (decide_eq_true l2),hh,Int.toNat_natCast]
  by_cases c1:s.data.toList[0]=45
  ·have hn:(byteAt s 0==45)=true:=by
    rw[hb,c1];rfl
   have hx:(ByteArray.extract s 1 s.size).data.toList=s.data.toList.tail:=by
    rw[ext_list,List.take_of_length_le (by omega),List.drop_one]
   have hxs:(ByteArray.extract s 1 s.size).size<=1000000:=by
    have:(ByteArray.extract s 1 s.size).size=(ByteArray.extract s 1 s.size).data.toList.length:=by rw[Array.length_toList];rfl
    rw[this,hx];simp;omega
   rw[hn,if_pos rfl,if_pos (decide_eq_true l3),if_pos (decide_eq_true (Int.le_refl _)),if_pos (decide_eq_true l4),if_pos (by rw[c1])];have:=pp_sign (ByteArray.extract s 1 s.size) true hxs;rw[hx]at this;exact this
  ·have hn:(byteAt s 0==45)=false:=by
    rw[hb,beq_eq_false_iff_ne];intro q;apply c1;apply UInt8.toNat_inj.1;show _=45;omega
   rw[hn,if_neg (show ¬((false:Bool)=true) by decide),if_neg (by rw[Option.some.injEq];exact c1)];exact pp_sign s false hsz
abbrev P.s_l01List_b0 (x1:Int×Int×List ByteArray×List RB×Unit) (g2:Int×Int×List ByteArray×List RB×Unit->Option ((List RB×Bool)×Unit)):Option ((List RB×Bool)×Unit):=
 if decide (x1.1<x1.2.1)then if decide (0<=x1.1)then if decide (x1.1<(x1.2.2.1.length:Int))then(S.s_l01Parse (x1.2.2.1.getD x1.1.toNat (bs []),())).bind fun y3=>if !y3.1.2 then some (([],false),())else if decide (((x1.2.2.2.1.length+(List.length [(y3.1.1.1,y3.1.1.2.1,y3.1.1.2.2)]))*56)<=140737488355328)then g2 (wrap .i64 (x1.1+1),x1.2.1,x1.2.2.1,x1.2.2.2.1++[(y3.1.1.1,y3.1.1.2.1,y3.1.1.2.2)],())else none else none else none else some ((x1.2.2.2.1,true),())
def P.s_l01List (k:Nat) (x:List ByteArray×Unit):Option ((List RB×Bool)×Unit):=
 if decide ((x.1.length:Int)>300)then some (([],false),())else loopP P.s_l01List_b0 k (0,(x.1.length:Int),x.1,[],())
open Classical in
def S.s_l01List (x:((List ByteArray)×Unit)):(Option (((List RB)×Bool)×Unit)):=if okT x.1=true then some (((rdAll x.1).1.map (rp B10),(rdAll x.1).2),())else none
theorem s_l01List_read (s:ByteArray) (h:s.size<=1000000):S.s_l01Parse (s,())=some ((rp B10 (rdRat s.data.toList).1,(rdRat s.data.toList).2),()):=by
 unfold S.s_l01Parse;exact if_pos (by dsimp only;omega)
theorem S.s_l01List_ok (x r) (h:S.s_l01List x=some r):∃k,P.s_l01List k x=some r:=by
 obtain⟨ls,u⟩:=x;unfold S.s_l01List at h;dsimp only at h;split at h
 case isFalse=>cases h
 rename_i hc;cases h;refine⟨ls.length+1,?_⟩;unfold P.s_l01List rdAll;dsimp only
 by_cases hl:(ls.length:Int)>300
 ·rw[if_pos (decide_eq_true hl),if_neg (show ¬(ls.length<=300/\(ls.all fun s=>(rdRat s.data.toList).2)=true)from fun z=>by omega)];rfl
 rw[if_neg (by simpa using hl)];have key:=loop_up0 (k:=ls.length+1) (b:=P.s_l01List_b0) (n:=ls.length) (st:=fun i=>((i:Int),(ls.length:Int),ls,(ls.take i).map (fun s=>rp B10 (rdRat s.data.toList).1),())) (F:=fun i=>some (if((ls.drop i).all fun s=>(rdRat s.data.toList).2)=true then(ls.map (fun s=>rp B10 (rdRat s.data.toList).1),true)else([],false),())) (fun i g hi hg=>by
  unfold P.s_l01List_b0;dsimp only at hg ⊢;have e1:(i:Int)<(ls.length:Int):=by omega
  have e2:(0:Int)<=(i:Int):=by omega
  simp only[e1,e2,decide_true,if_true];rw[getD_cast ls i _ hi,s_l01List_read _ (okT_get hc hi),Option.bind_some,List.drop_eq_getElem_cons hi,List.all_cons];dsimp only;cases hf:(rdRat ls[i].data.toList).2
  ·rw[if_pos (by rfl),if_neg (by simp)]
  ·rw[if_neg (by simp),wr (by omega) (by omega),Bool.true_and,<-hg];have e3:((List.map (fun s:ByteArray=>rp B10 (rdRat s.data.toList).1) (ls.take i)).length+1)*56<=140737488355328:=by
    rw[List.length_map,List.length_take];omega
   simp only[List.length_cons,List.length_nil,Nat.zero_add];rw[if_pos (decide_eq_true e3),List.take_add_one,List.getElem?_eq_getElem hi,Option.toList_some,List.map_append];rfl) (fun g=>by
  unfold P.s_l01List_b0;dsimp only;rw[if_neg (by simp),List.take_length,List.drop_length];rfl) (by omega)
 refine key.trans ?_;rw[List.drop_zero]
 by_cases ha:(ls.all fun s=>(rdRat s.data.toList).2)=true
 ·rw[if_pos ha,if_pos (show ls.length<=300/\(ls.all fun s=>(rdRat s.data.toList).2)=true from⟨by omega,ha⟩),List.map_map];rfl
 ·rw[if_neg ha,if_neg (fun z=>ha z.2)];rfl
def P.s_l01Int (k:Nat) (x:Int×Unit):Option (RB×Unit):=
 if decide (x.1<0)then(S.s_l01Nat (wrap .i64 (0 - x.1),())).bind fun y0=>some ((true,y0.1,[1]),())else(S.s_l01Nat (x.1,())).bind fun y1=>some ((false,y1.1,[1]),())
def S.s_l01Int (x:(Int×Unit)):(Option (RB×Unit)):=if -9223372036854775807<=x.1/\x.1<=9223372036854775807 then some (rp B10 (wholeQ x.1),())else none
theorem S.s_l01Int_ok (x r) (h:S.s_l01Int x=some r):∃k,P.s_l01Int k x=some r:=by
 obtain⟨n,u⟩:=x;unfold S.s_l01Int at h;dsimp only at h;split at h
 case isFalse=>cases h
 rename_i hc;cases h;refine⟨0,?_⟩;unfold P.s_l01Int S.s_l01Nat rp wholeQ;dsimp only;rw[nd_one B10_le]
 by_cases h0:n<0
 ·rw[if_pos (decide_eq_true h0),wr (by omega) (by omega),if_pos ⟨by omega,by omega⟩,Option.bind_some,decide_eq_true h0,show(0 - n).toNat=n.natAbs by omega]
 ·rw[if_neg (by simpa using h0),if_pos ⟨by omega,by omega⟩,Option.bind_some,decide_eq_false h0,show n.toNat=n.natAbs by omega]
def P.s_l01One (k:Nat) (x:Unit):Option (RB×Unit):=
 (S.s_l01Int (1,())).bind fun y0=>some ((y0.1.1,y0.1.2.1,y0.1.2.2),())
def S.s_l01One (x:Unit):(Option (RB×Unit)):=P.s_l01One 0 x
theorem S.s_l01One_ok (x r) (h:S.s_l01One x=some r):∃k,P.s_l01One k x=some r:=⟨0,h⟩
def P.s_l01None (k:Nat) (x:Unit):Option (RB×Unit):=
 (S.s_l01Int (0,())).bind fun y0=>some ((y0.1.1,y0.1.2.1,y0.1.2.2),())
def S.s_l01None (x:Unit):(Option (RB×Unit)):=P.s_l01None 0 x
theorem S.s_l01None_ok (x r) (h:S.s_l01None x=some r):∃k,P.s_l01None k x=some r:=⟨0,h⟩
abbrev P.s_l01NatAdd_b0 (x1:Int×List Int×List Int×Int×List Int×Unit) (g2:Int×List Int×List Int×Int×List Int×Unit->Option (List Int×Unit)):Option (List Int×Unit):=
 (fun(a d:Int) (b c e:List Int)=>if decide (a<(b.length:Int))then(S.s_l01Digit (b,a,())).bind fun y3=>(S.s_l01Digit (c,a,())).bind fun y4=>if decide (((e.length+(List.length [Int.tmod (wrap .i64 ((wrap .i64 (y3.1+y4.1))+d)) 1000000000]))*8)<=140737488355328)then g2 (wrap .i64 (a+1),b,c,wrap .i64 (Int.tdiv (wrap .i64 ((wrap .i64 (y3.1+y4.1))+d)) 1000000000),e++[Int.tmod (wrap .i64 ((wrap .i64 (y3.1+y4.1))+d)) 1000000000],())else none else if decide (a<(c.length:Int))then(S.s_l01Digit (b,a,())).bind fun y5=>(S.s_l01Digit (c,a,())).bind fun y6=>if decide (((e.length+(List.length [Int.tmod (wrap .i64 ((wrap .i64 (y5.1+y6.1))+d)) 1000000000]))*8)<=140737488355328)then g2 (wrap .i64 (a+1),b,c,wrap .i64 (Int.tdiv (wrap .i64 ((wrap .i64 (y5.1+y6.1))+d)) 1000000000),e++[Int.tmod (wrap .i64 ((wrap .i64 (y5.1+y6.1))+d)) 1000000000],())else none else if decide (d>0)then(S.s_l01Digit (b,a,())).bind fun y7=>(S.s_l01Digit (c,a,())).bind fun y8=>if decide (((e.length+(List.length [Int.tmod (wrap .i64 ((wrap .i64 (y7.1+y8.1))+d)) 1000000000]))*8)<=140737488355328)then g2 (wrap .i64 (a+1),b,c,wrap .i64 (Int.tdiv (wrap .i64 ((wrap .i64 (y7.1+y8.1))+d)) 1000000000),e++[Int.tmod (wrap .i64 ((wrap .i64 (y7.1+y8.1))+d)) 1000000000],())else none else some (e,())) x1.1 x1.2.2.2.1 x1.2.1 x1.2.2.1 x1.2.2.2.2.1
def P.s_l01NatAdd (k:Nat) (x:List Int×List Int×Unit):Option (List Int×Unit):=
 loopP P.s_l01NatAdd_b0 k (0,x.1,x.2.1,0,[],())
theorem digit_atA (xs:List Int) (i:Nat) (h:xs.length<=100000000000):S.s_l01Digit (xs,((i:Int),()))=some (xs.getD i 0,()):=by
 unfold S.s_l01Digit P.s_l01Digit;dsimp only
 by_cases hi:(i:Int)<(xs.length:Int)
 ·have h0:(0:Int)<=(i:Int):=by omega
  rw[if_pos (decide_eq_true hi),if_pos (decide_eq_true h0),if_pos (decide_eq_true hi),Int.toNat_natCast]
 ·rw[if_neg (by simpa using hi),List.getD_eq_getElem?_getD,List.getElem?_eq_none (by omega)];rfl
theorem addA_round (xs ys:List Int) (dx:dig B10 xs=true) (dy:dig B10 ys=true) (lx:xs.length<=10000000000) (ly:ys.length<=10000000000) (i:Nat) (hi:i<=100000000000) (hc:i<xs.length\/i<ys.length\/0<(addUp B10 xs ys i).2) (g:(Int×((List Int)×((List Int)×(Int×((List Int)×Unit)))))->Option ((List Int)×Unit)):
  P.s_l01NatAdd_b0 ((i:Int),xs,ys,((addUp B10 xs ys i).2:Int),(addUp B10 xs ys i).1,()) g=g (((i+1:Nat):Int),xs,ys,((addUp B10 xs ys (i+1)).2:Int),(addUp B10 xs ys (i+1)).1,()):=by
 obtain⟨q1,q2,q3,q4⟩:=addUp_ok B10_le dx dy i;have gx:=dig_getD (B:=B10) (by decide) dx i;have gy:=dig_getD (B:=B10) (by decide) dy i;have gx1:xs.getD i 0<1000000000:=gx.2;have gy1:ys.getD i 0<1000000000:=gy.2;have gx0:=gx.1;have gy0:=gy.1;have body:(Option.bind (S.s_l01Digit (xs,((i:Int),()))) (fun(y3:(Int×Unit))=>(Option.bind (S.s_l01Digit (ys,((i:Int),()))) (fun(y4:(Int×Unit))=>(if((decide ((((List.length (addUp B10 xs ys i).1)+(List.length ((Int.tmod (IntKind.wrap .i64 ((IntKind.wrap .i64 (y3.1+y4.1))+((addUp B10 xs ys i).2:Int))) (1000000000:Int))::([]:List Int))))*(8:Nat))<=(140737488355328:Nat)))=true)then(g ((IntKind.wrap .i64 ((i:Int)+(1:Int))),(xs,(ys,((IntKind.wrap .i64 (Int.tdiv (IntKind.wrap .i64 ((IntKind.wrap .i64 (y3.1+y4.1))+((addUp B10 xs ys i).2:Int))) (1000000000:Int))),(((addUp B10 xs ys i).1++((Int.tmod (IntKind.wrap .i64 ((IntKind.wrap .i64 (y3.1+y4.1))+((addUp B10 xs ys i).2:Int))) (1000000000:Int))::([]:List Int))),()))))))
 else none)))))=g (((i+1:Nat):Int),xs,ys,((addUp B10 xs ys (i+1)).2:Int),(addUp B10 xs ys (i+1)).1,()):=by
  rw[digit_atA xs i (by omega),Option.bind_some,digit_atA ys i (by omega),Option.bind_some];dsimp only;rw[addUp];generalize xs.getD i 0=x at*;generalize ys.getD i 0=y at*;generalize addUp B10 xs ys i=p at*;obtain⟨pl,c0⟩:=p;dsimp only at*;obtain⟨X,rfl⟩:∃Y:Nat,x=(Y:Int):=⟨x.toNat,by omega⟩
  obtain⟨Y,rfl⟩:∃Y:Nat,y=(Y:Int):=⟨y.toNat,by omega⟩
  rw[Int.toNat_natCast,Int.toNat_natCast,wr (x:=(X:Int)+(Y:Int)) (by omega) (by omega),wr (x:=(X:Int)+(Y:Int)+(c0:Int)) (by omega) (by omega),Int.tmod_eq_emod_of_nonneg (by omega),Int.tdiv_eq_ediv_of_nonneg (by omega)];have e8:((X:Int)+(Y:Int)+(c0:Int))%1000000000=(((c0+X+Y)%B10:Nat):Int):=by
   show _=(((c0+X+Y)%1000000000:Nat):Int)
   omega
  have e9:((X:Int)+(Y:Int)+(c0:Int))/1000000000=(((c0+X+Y)/B10:Nat):Int):=by
   show _=(((c0+X+Y)/1000000000:Nat):Int)
   omega
  have b2:(c0+X+Y)/B10<=1000000000:=by
   show(c0+X+Y)/1000000000<=1000000000;omega
  have hcap:(pl.length+ [(((c0+X+Y)%B10:Nat):Int)].length)*8<=140737488355328:=by
   rw[q2,List.length_singleton];omega
  rw[e8,e9,if_pos (decide_eq_true hcap),wr (x:=(((c0+X+Y)/B10:Nat):Int)) (by omega) (by omega),wr (x:=(i:Int)+1) (by omega) (by omega)];rfl
 unfold P.s_l01NatAdd_b0;dsimp only
 by_cases h1:i<xs.length
 ·have h1':(i:Int)<(xs.length:Int):=by omega
  rw[if_pos (decide_eq_true h1')];exact body
 ·have h1':¬(i:Int)<(xs.length:Int):=by omega
  rw[if_neg (by simpa using h1')]
  by_cases h2:i<ys.length
  ·have h2':(i:Int)<(ys.length:Int):=by omega
   rw[if_pos (decide_eq_true h2')];exact body
  ·have h2':¬(i:Int)<(ys.length:Int):=by omega
   have h3:((addUp B10 xs ys i).2:Int)>0:=by
    rcases hc with h|h|h
    ·exact absurd h h1
    ·exact absurd h h2
    ·omega
   rw[if_neg (by simpa using h2'),if_pos (decide_eq_true h3)];exact body
def S.s_l01NatAdd (x:((List Int)×((List Int)×Unit))):(Option ((List Int)×Unit)):=if canon B10 x.1=true/\canon B10 x.2.1=true/\x.1.length<=10000000000/\x.2.1.length<=10000000000 then some (nd B10 (dval B10 x.1+dval B10 x.2.1),())else none
theorem S.s_l01NatAdd_ok (x r) (h:S.s_l01NatAdd x=some r):∃k,P.s_l01NatAdd k x=some r:=by
 obtain⟨xs,ys,u⟩:=x;unfold S.s_l01NatAdd at h;dsimp only at h;split at h
 case isFalse=>cases h
 rename_i hc;obtain⟨cx,cy,lx,ly⟩:=hc;cases h;have dx:=canon_dig cx;have dy:=canon_dig cy;obtain⟨N,hN,hNx,hNy,hNle⟩:∃N,(N=xs.length\/N=ys.length)/\xs.length<=N/\ys.length<=N/\N<=10000000000:=by
  by_cases h:xs.length<=ys.length
  ·exact⟨ys.length, .inr rfl,h,Nat.le_refl _,ly⟩
  ·exact⟨xs.length, .inl rfl,Nat.le_refl _,by omega,lx⟩
 obtain⟨q1,q2,q3,q4⟩:=addUp_ok B10_le dx dy N;rw[List.take_of_length_le hNx,List.take_of_length_le hNy]at q3;obtain⟨n,hn,hfull⟩:∃n,(n=N/\(addUp B10 xs ys N).2=0\/n=N+1/\0<(addUp B10 xs ys N).2)/\(n=0\/B10^(n - 1)<=dval B10 xs+dval B10 ys):=by
  by_cases h:(addUp B10 xs ys N).2=0
  ·refine⟨N, .inl ⟨rfl,h⟩,?_⟩;have one:∀zs:List Int,canon B10 zs=true->zs=[]\/B10^(zs.length - 1)<=dval B10 zs:=by
    intro zs cz
    by_cases hz:zs=[]
    ·exact .inl hz
    ·have h0:dval B10 zs≠0:=fun e=>hz ((canon_nil B10_le cz).2 e)
     have:=nd_low B10_le h0;rw[canon_eq cz]at this;exact .inr this
   rcases hN with e|e
   ·rcases one xs cx with h2|h2
    ·left;rw[e,h2];rfl
    ·right;rw[e];omega
   ·rcases one ys cy with h2|h2
    ·left;rw[e,h2];rfl
    ·right;rw[e];omega
  ·refine⟨N+1, .inr ⟨rfl,by omega⟩, .inr ?_⟩;rw[Nat.add_sub_cancel];have:B10^N*1<=B10^N*(addUp B10 xs ys N).2:=Nat.mul_le_mul_left _ (by omega);omega
 obtain⟨r1,r2,r3,r4⟩:=addUp_ok B10_le dx dy n;rw[List.take_of_length_le (by omega),List.take_of_length_le (by omega)]at r3;have hlast:(addUp B10 xs ys n).2=0:=by
  rcases hn with ⟨rfl,h⟩|⟨rfl,h⟩
  ·exact h
  ·rw[addUp];rw[List.getD_eq_getElem?_getD,List.getElem?_eq_none (by omega),List.getD_eq_getElem?_getD,List.getElem?_eq_none (by omega)];show((addUp B10 xs ys N).2+0+0)/1000000000=0;omega
 rw[hlast,Nat.mul_zero,Nat.add_zero]at r3;refine⟨n+1,?_⟩;unfold P.s_l01NatAdd;dsimp only;have key:=loop_up0 (k:=n+1) (b:=P.s_l01NatAdd_b0) (n:=n) (st:=fun i=>((i:Int),xs,ys,((addUp B10 xs ys i).2:Int),(addUp B10 xs ys i).1,())) (F:=fun i=>some (nd B10 (dval B10 xs+dval B10 ys),())) (fun i g hi hg=>by
  rw[addA_round xs ys dx dy lx ly i (by omega) (by
   rcases hn with ⟨rfl,h⟩|⟨rfl,h⟩
   ·omega
   ·by_cases he:i=N
    ·subst he;exact .inr (.inr h)
    ·omega)]
  exact hg) (fun g=>by
  unfold P.s_l01NatAdd_b0;dsimp only;have h1:¬(n:Int)<(xs.length:Int):=by omega
  have h2:¬(n:Int)<(ys.length:Int):=by omega
  rw[if_neg (by simpa using h1),if_neg (by simpa using h2),hlast,if_neg (by simp),<-r3];rcases Nat.eq_zero_or_pos n with e|e
  ·subst e;show some ([],())=some (nd B10 0,());rw[nd_zero B10_le]
  ·have hv:B10^(n - 1)<=dval B10 (addUp B10 xs ys n).1:=by
    rcases hfull with h|h
    ·omega
    ·omega
   have:=nd_full B10_le r1 (fun q=>by rw[q]at r2;simp at r2;omega) (by rw[r2];exact hv);rw[this]) (by omega)
 exact key
abbrev P.s_l01NatLess_b0 (x1:Int×Int×List Int×List Int×Int×List Int×Unit) (g2:Int×Int×List Int×List Int×Int×List Int×Unit->Option (List Int×Unit)):Option (List Int×Unit):=
 (fun(a b e:Int) (c d f:List Int)=>if decide (a<b)then if decide (0<=a)then if decide (a<(c.length:Int))then(S.s_l01Digit (d,a,())).bind fun y3=>if decide ((wrap .i64 ((wrap .i64 ((c.getD a.toNat 0) - y3.1)) - e))<0)then if decide (((f.length+(List.length [wrap .i64 ((wrap .i64 ((wrap .i64 ((c.getD a.toNat 0) - y3.1)) - e))+1000000000)]))*8)<=140737488355328)then g2 (wrap .i64 (a+1),b,c,d,1,f++[wrap .i64 ((wrap .i64 ((wrap .i64 ((c.getD a.toNat 0) - y3.1)) - e))+1000000000)],())else none else if decide (((f.length+(List.length [wrap .i64 ((wrap .i64 ((c.getD a.toNat 0) - y3.1)) - e)]))*8)<=140737488355328)then g2 (wrap .i64 (a+1),b,c,d,0,f++[wrap .i64 ((wrap .i64 ((c.getD a.toNat 0) - y3.1)) - e)],())else none else none else none else(S.s_l01Trim (f,())).bind fun y4=>some (y4.1,())) x1.1 x1.2.1 x1.2.2.2.2.1 x1.2.2.1 x1.2.2.2.1 x1.2.2.2.2.2.1
def P.s_l01NatLess (k:Nat) (x:List Int×List Int×Unit):Option (List Int×Unit):=
 loopP P.s_l01NatLess_b0 k (0,(x.1.length:Int),x.1,x.2.1,0,[],())
theorem digit_at (xs:List Int) (i:Nat) (h:xs.length<=100000000000):S.s_l01Digit (xs,((i:Int),()))=some (xs.getD i 0,()):=by
 unfold S.s_l01Digit P.s_l01Digit;dsimp only
 by_cases hi:(i:Int)<(xs.length:Int)
 ·have h0:(0:Int)<=(i:Int):=by omega
  rw[if_pos (decide_eq_true hi),if_pos (decide_eq_true h0),if_pos (decide_eq_true hi),Int.toNat_natCast]
 ·rw[if_neg (by simpa using hi),List.getD_eq_getElem?_getD,List.getElem?_eq_none (by omega)];rfl
def S.s_l01NatLess (x:((List Int)×((List Int)×Unit))):(Option ((List Int)×Unit)):=if dig B10 x.1=true/\dig B10 x.2.1=true/\x.2.1.length<=x.1.length/\dval B10 x.2.1<=dval B10 x.1/\x.1.length<=10000000000 then some (nd B10 (dval B10 x.1 - dval B10 x.2.1),())else none
theorem S.s_l01NatLess_ok (x r) (h:S.s_l01NatLess x=some r):∃k,P.s_l01NatLess k x=some r:=by
 obtain⟨xs,ys,u⟩:=x;unfold S.s_l01NatLess at h;dsimp only at h;split at h
 case isFalse=>cases h
 rename_i hc;obtain⟨dx,dy,hl,hv,lx⟩:=hc;cases h;refine⟨xs.length+1,?_⟩;unfold P.s_l01NatLess;dsimp only;have key:=loop_up0 (k:=xs.length+1) (b:=P.s_l01NatLess_b0) (n:=xs.length) (st:=fun i=>((i:Int),(xs.length:Int),xs,ys,((takeUp B10 1 xs ys i).2.2:Int),(takeUp B10 1 xs ys i).1,())) (F:=fun i=>some (nd B10 (dval B10 xs - dval B10 ys),())) (fun i g hi hg=>by
  unfold P.s_l01NatLess_b0;dsimp only at hg ⊢;refine Eq.trans ?_ hg;clear hg;obtain⟨q1,q2,q3,q4,q5⟩:=takeUp_ok (t:=1) B10_le dx dy i;have gx:=dig_getD (B:=B10) (by decide) dx i;have gy:=dig_getD (B:=B10) (by decide) dy i;have gx1:xs.getD i 0<1000000000:=gx.2;have gy1:ys.getD i 0<1000000000:=gy.2;have gx0:=gx.1;have gy0:=gy.1;have e1:(i:Int)<(xs.length:Int):=by omega
  have e2:(0:Int)<=(i:Int):=by omega
  simp only[e1,e2,decide_true,if_true,Int.toNat_natCast];rw[digit_at ys i (by omega),Option.bind_some];dsimp only;rw[(takeUp_one B10_le (xs:=xs) dy i).2];dsimp only;generalize (takeUp B10 1 xs ys i).1=pl at*;generalize (takeUp B10 1 xs ys i).2.2=l0 at*;obtain⟨x,hx⟩:∃x,xs.getD i 0=x:=⟨_,rfl⟩
  obtain⟨y,hy⟩:∃y,ys.getD i 0=y:=⟨_,rfl⟩
  simp only[hx,hy]at gx1 gx0 gy1 gy0 ⊢;have hB:((B10:Nat):Int)=1000000000:=rfl;have hcap:∀v:Int,(pl.length+ [v].length)*8<=140737488355328:=by
   intro v;rw[q2,List.length_singleton];omega
  rw[wr (x:=(i:Int)+1) (by omega) (by omega),wr (x:=x - y) (by omega) (by omega),wr (x:=x - y - (l0:Int)) (by omega) (by omega),wr (x:=x - y - (l0:Int)+1000000000) (by omega) (by omega),hB]
  by_cases hn:x - y - (l0:Int)<0
  ·rw[if_pos (decide_eq_true hn),if_pos (decide_eq_true (hcap _)),if_pos hn,show(x - y - (l0:Int))%1000000000=x - y - (l0:Int)+1000000000 by omega];rfl
  ·have e11:(x - y - (l0:Int))%1000000000=x - y - (l0:Int):=by omega
   rw[if_neg (by simpa using hn),if_pos (decide_eq_true (hcap _)),if_neg hn,e11];rfl) (fun g=>by
  unfold P.s_l01NatLess_b0;dsimp only;rw[if_neg (by simp),takeUp_fd B10_le dx dy hl hv];unfold S.s_l01Trim;dsimp only;have hb:=dval_lt dx;rw[if_pos ⟨dig_fd (by decide) _ _,by rw[fd_len];omega⟩,Option.bind_some,nd_fd B10_le (by omega)]) (by omega)
 exact key
def P.s_l01Make (k:Nat) (x:Bool×List Int×List Int×Unit):Option (RB×Unit):=
 (S.s_l01Gcd (x.2.1,x.2.2.1,())).bind fun y0=>(S.s_l01Cmp (y0.1,[(1:Int)],())).bind fun y1=>if y1.1 != (0:Int)then(S.s_l01NatDiv (x.2.1,y0.1,())).bind fun y2=>(S.s_l01NatDiv (x.2.2.1,y0.1,())).bind fun y3=>if x.1 then some ((decide ((y2.1.1.length:Int)>(0:Int)),y2.1.1,y3.1.1),())else some ((false,y2.1.1,y3.1.1),())else if x.1 then some ((decide ((x.2.1.length:Int)>(0:Int)),x.2.1,x.2.2.1),())else some ((false,x.2.1,x.2.2.1),())
def S.s_l01Make (x:(Bool×((List Int)×((List Int)×Unit)))):(Option (RB×Unit)):=if canon B10 x.2.1=true/\canon B10 x.2.2.1=true/\x.2.2.1≠ []/\x.2.1.length<=10000000000/\x.2.2.1.length<=10000000000 then some (rp B10 (lowN x.1 (dval B10 x.2.1) (dval B10 x.2.2.1)),())else none
theorem S.s_l01Make_ok (x r) (h:S.s_l01Make x=some r):∃k,P.s_l01Make k x=some r:=by
 obtain⟨neg,as,bs',u⟩:=x;unfold S.s_l01Make at h;dsimp only at h;split at h
 case isFalse=>cases h
 rename_i hc;obtain⟨ca,cb,hne,la,lb⟩:=hc;cases h;refine⟨0,?_⟩;unfold P.s_l01Make;dsimp only;have hb0:dval B10 bs'≠0:=fun e=>hne ((canon_nil B10_le cb).2 e)
 have hg:=gcd_len B10_le ca cb hb0;have hgp:0<Nat.gcd (dval B10 as) (dval B10 bs'):=Nat.gcd_pos_of_pos_right _ (by omega);have e1:S.s_l01Gcd (as,(bs',()))=some (nd B10 (Nat.gcd (dval B10 as) (dval B10 bs')),()):=by
  unfold S.s_l01Gcd;exact if_pos ⟨ca,cb,la,lb⟩
 rw[e1,Option.bind_some];dsimp only;unfold lowN rp;dsimp only;have hgne:nd B10 (Nat.gcd (dval B10 as) (dval B10 bs'))≠ []:=by
  rw[nd_pos B10_le (by omega)];simp
 have hgd:dval B10 (nd B10 (Nat.gcd (dval B10 as) (dval B10 bs')))=Nat.gcd (dval B10 as) (dval B10 bs'):=dval_nd B10_le _;have hgc:canon B10 (nd B10 (Nat.gcd (dval B10 as) (dval B10 bs')))=true:=canon_nd B10_le _;have e2:∀xs,canon B10 xs=true->xs.length<=10000000000->S.s_l01NatDiv (xs,(nd B10 (Nat.gcd (dval B10 as) (dval B10 bs')),()))=some ((nd B10 (dval B10 xs/Nat.gcd (dval B10 as) (dval B10 bs')),nd B10 (dval B10 xs%Nat.gcd (dval B10 as) (dval B10 bs'))),()):=by
  intro xs cx lx;unfold S.s_l01NatDiv;dsimp only;rw[if_pos ⟨cx,hgc,hgne,lx,by omega⟩,hgd]
 have e3:S.s_l01Cmp (nd B10 (Nat.gcd (dval B10 as) (dval B10 bs')),([1],()))=some (cmpN (Nat.gcd (dval B10 as) (dval B10 bs')) 1,()):=by
  unfold S.s_l01Cmp;dsimp only;rw[if_pos ⟨hgc,canon_one B10_le,by omega⟩,hgd,dval_one]
 rw[e3,Option.bind_some,e2 as ca la,Option.bind_some,e2 bs' cb lb,Option.bind_some];dsimp only;have hpos:∀xs:List Int,canon B10 xs=true->(decide (((xs.length:Nat):Int)>0))=decide (dval B10 xs≠0):=by
  intro xs cx;have:=canon_nil B10_le cx;rw[decide_eq_decide];constructor
  ·intro h e;rw[this.2 e]at h;simp at h
  ·intro h;have:0<xs.length:=List.length_pos_iff.2 (fun e=>h (this.1 e));omega
 have hp2:decide (dval B10 as/Nat.gcd (dval B10 as) (dval B10 bs')≠0)=decide (dval B10 as≠0):=by
  rw[decide_eq_decide];have hdv:Nat.gcd (dval B10 as) (dval B10 bs') ∣ dval B10 as:=Nat.gcd_dvd_left _ _;constructor
  ·intro h e;rw[e,Nat.zero_div]at h;exact h rfl
  ·intro h e;have:=Nat.div_pos (Nat.le_of_dvd (by omega) hdv) hgp;omega
 rw[hpos _ (canon_nd B10_le _),hpos as ca,dval_nd B10_le,hp2]
 by_cases h1:Nat.gcd (dval B10 as) (dval B10 bs')=1
 ·rw[if_neg (by simpa using cmpN_zero.2 h1),h1,Nat.div_one,Nat.div_one,canon_eq ca,canon_eq cb];cases neg<;>simp
 ·rw[if_pos (by simpa using fun q=>h1 (cmpN_zero.1 q))];cases neg<;>simp
def P.s_l01Sum (k:Nat) (x:RB×RB×Unit):Option (RB×Unit):=
 (S.s_l01NatMul (x.1.2.1,x.2.1.2.2,())).bind fun y0=>(S.s_l01NatMul (x.2.1.2.1,x.1.2.2,())).bind fun y1=>(S.s_l01NatMul (x.1.2.2,x.2.1.2.2,())).bind fun y2=>if x.1.1==x.2.1.1 then(S.s_l01NatAdd (y0.1,y1.1,())).bind fun y3=>(S.s_l01Make (x.1.1,y3.1,y2.1,())).bind fun y4=>some ((y4.1.1,y4.1.2.1,y4.1.2.2),())else(S.s_l01Cmp (y0.1,y1.1,())).bind fun y5=>if decide (y5.1>=0)then(S.s_l01NatLess (y0.1,y1.1,())).bind fun y6=>(S.s_l01Make (x.1.1,y6.1,y2.1,())).bind fun y7=>some ((y7.1.1,y7.1.2.1,y7.1.2.2),())else(S.s_l01NatLess (y1.1,y0.1,())).bind fun y8=>(S.s_l01Make (x.2.1.1,y8.1,y2.1,())).bind fun y9=>some ((y9.1.1,y9.1.2.1,y9.1.2.2),())
theorem sa_mul (p q:Nat) (hp:(nd B10 p).length<=100000000) (hq:(nd B10 q).length<=100000000):S.s_l01NatMul (nd B10 p,(nd B10 q,()))=some (nd B10 (p*q),()):=by
 unfold S.s_l01NatMul;dsimp only;rw[if_pos ⟨dig_nd B10_le _,dig_nd B10_le _,by omega,by omega⟩,dval_nd B10_le,dval_nd B10_le]
theorem sa_add (p q:Nat) (hp:(nd B10 p).length<=100000000) (hq:(nd B10 q).length<=100000000):S.s_l01NatAdd (nd B10 p,(nd B10 q,()))=some (nd B10 (p+q),()):=by
 unfold S.s_l01NatAdd;dsimp only;rw[if_pos ⟨canon_nd B10_le _,canon_nd B10_le _,by omega,by omega⟩,dval_nd B10_le,dval_nd B10_le]
theorem sa_sub (p q:Nat) (hp:(nd B10 p).length<=100000000) (h:q<=p):S.s_l01NatLess (nd B10 p,(nd B10 q,()))=some (nd B10 (p - q),()):=by
 unfold S.s_l01NatLess;dsimp only;rw[dval_nd B10_le,dval_nd B10_le,if_pos ⟨dig_nd B10_le _,dig_nd B10_le _,nd_shorter' B10_le h,h,by omega⟩]
theorem sa_cmp (p q:Nat) (hp:(nd B10 p).length<=100000000):S.s_l01Cmp (nd B10 p,(nd B10 q,()))=some (cmpN p q,()):=by
 unfold S.s_l01Cmp;dsimp only;rw[if_pos ⟨canon_nd B10_le _,canon_nd B10_le _,by omega⟩,dval_nd B10_le,dval_nd B10_le]
theorem sa_low (n:Bool) (p q:Nat) (hp:(nd B10 p).length<=100000000) (hq:(nd B10 q).length<=100000000) (h0:q≠0):S.s_l01Make (n,(nd B10 p,(nd B10 q,())))=some (rp B10 (lowN n p q),()):=by
 unfold S.s_l01Make;dsimp only;rw[if_pos ⟨canon_nd B10_le _,canon_nd B10_le _,nd_ne B10_le h0,by omega,by omega⟩,dval_nd B10_le,dval_nd B10_le]
def S.s_l01Sum (x:(RB×(RB×Unit))):(Option (RB×Unit)):=if lowb B10 40000000 x.1=true/\lowb B10 40000000 x.2.1=true then some (rp B10 (addQ (rv B10 x.1) (rv B10 x.2.1)),())else none
theorem S.s_l01Sum_ok (x r) (h:S.s_l01Sum x=some r):∃k,P.s_l01Sum k x=some r:=by
 obtain⟨x,y,u⟩:=x;unfold S.s_l01Sum at h;dsimp only at h;split at h
 case isFalse=>cases h
 rename_i hc;obtain⟨hx,hy⟩:=hc;cases h;rw[lowb_iff]at hx hy;obtain⟨hx,lx⟩:=hx;obtain⟨hy,ly⟩:=hy;obtain⟨n1,p1,q1,rfl,x1,x2⟩:=rok_nd hx;obtain⟨n2,p2,q2,rfl,y1,y2⟩:=rok_nd hy;rw[rv_nd B10_le]at lx ly ⊢;rw[rv_nd B10_le];have hq1:q1≠0:=by have:0<q1:=lx.1;omega
 have hq2:q2≠0:=by have:0<q2:=ly.1;omega
 have m1:=nd_mul_len B10_le p1 q2;have m2:=nd_mul_len B10_le p2 q1;have m3:=nd_mul_len B10_le q1 q2;have hq0:q1*q2≠0:=Nat.mul_ne_zero hq1 hq2;refine⟨0,?_⟩;unfold P.s_l01Sum;dsimp only;rw[sa_mul p1 q2 (by omega) (by omega),Option.bind_some,sa_mul p2 q1 (by omega) (by omega),Option.bind_some,sa_mul q1 q2 (by omega) (by omega),Option.bind_some];dsimp only;unfold addQ;dsimp only;have a1:=nd_add_len B10_le (p1*q2) (p2*q1);have a2:=nd_sub_len B10_le (p1*q2) (p2*q1);have a3:=nd_sub_len B10_le (p2*q1) (p1*q2)
 by_cases hn:n1=n2
 ·rw[if_pos (by simpa using hn),if_pos hn,sa_add _ _ (by omega) (by omega),Option.bind_some,sa_low n1 _ _ (by omega) (by omega) hq0,Option.bind_some]
 ·rw[if_neg (by simpa using hn),if_neg hn,sa_cmp _ _ (by omega),Option.bind_some];dsimp only;have hlt:=cmpN_lt (a:=p1*q2) (b:=p2*q1)
  by_cases hle:p2*q1<=p1*q2
  ·have hge:cmpN (p1*q2) (p2*q1)>=0:=by
    rcases Int.lt_or_le (cmpN (p1*q2) (p2*q1)) 0 with g|g
    ·have:=hlt.1 g;omega
    ·exact g
   rw[if_pos (decide_eq_true hge),if_pos hle,sa_sub _ _ (by omega) hle,Option.bind_some,sa_low n1 _ _ (by omega) (by omega) hq0,Option.bind_some]
  ·have hge:¬cmpN (p1*q2) (p2*q1)>=0:=by
    have:=hlt.2 (Nat.lt_of_not_le hle);omega
   rw[if_neg (by simpa using hge),if_neg hle,sa_sub _ _ (by omega) (Nat.le_of_lt (Nat.lt_of_not_le hle)),Option.bind_some,sa_low n2 _ _ (by omega) (by omega) hq0,Option.bind_some]
abbrev P.s_l01Total_b1 (x2:Int×Int×RB×List RB×RB×Unit) (g3:Int×Int×RB×List RB×RB×Unit->Option (RB×Unit)):Option (RB×Unit):=
 if decide (x2.1<x2.2.1)then if decide (0<=x2.1)then if decide (x2.1<(x2.2.2.2.1.length:Int))then(S.s_l01Sum ((x2.2.2.1.1,x2.2.2.1.2.1,x2.2.2.1.2.2),((x2.2.2.2.1.getD x2.1.toNat (false,[],[])).1,(x2.2.2.2.1.getD x2.1.toNat (false,[],[])).2.1,(x2.2.2.2.1.getD x2.1.toNat (false,[],[])).2.2),())).bind fun y4=>g3 (wrap .i64 (x2.1+1),x2.2.1,(y4.1.1,y4.1.2.1,y4.1.2.2),x2.2.2.2.1,(x2.2.2.2.2.1.1,x2.2.2.2.2.1.2.1,x2.2.2.2.2.1.2.2),())else none else none else some ((x2.2.2.1.1,x2.2.2.1.2.1,x2.2.2.1.2.2),())
def P.s_l01Total (k:Nat) (x:List RB×Unit):Option (RB×Unit):=
 (S.s_l01None ()).bind fun y0=>loopP P.s_l01Total_b1 k (0,(x.1.length:Int),(y0.1.1,y0.1.2.1,y0.1.2.2),x.1,(false,[],[]),())
open Classical in
def S.s_l01Total (x:((List RB)×Unit)):(Option (RB×Unit)):=if goodS B10 x.1 then some (rp B10 (sumQ (x.1.map (rv B10))),())else none
theorem s_l01Total_add (a b:Q3) (ha:lowb B10 40000000 (rp B10 a)=true) (hb:lowb B10 40000000 (rp B10 b)=true):S.s_l01Sum (rp B10 a,(rp B10 b,()))=some (rp B10 (addQ a b),()):=by
 unfold S.s_l01Sum;dsimp only;rw[if_pos ⟨ha,hb⟩,rv_rp B10_le,rv_rp B10_le]
theorem S.s_l01Total_ok (x r) (h:S.s_l01Total x=some r):∃k,P.s_l01Total k x=some r:=by
 obtain⟨xs,u⟩:=x;unfold S.s_l01Total at h;dsimp only at h;split at h
 case isFalse=>cases h
 rename_i hc;obtain⟨qs,rfl,hlen,hq,hg⟩:=hc;cases h;refine⟨qs.length+1,?_⟩;unfold P.s_l01Total;have hz:S.s_l01None ()=some (rp B10 zeroQ,()):=by rfl
 dsimp only;rw[hz,Option.bind_some,map_rv B10_le,List.length_map];have key:=loop_up0 (k:=qs.length+1) (b:=P.s_l01Total_b1) (n:=qs.length) (st:=fun i=>((i:Int),(qs.length:Int),rp B10 (sumQ (qs.take i)),qs.map (rp B10),(false,(([]:List Int),([]:List Int))),())) (F:=fun i=>some (rp B10 (sumQ qs),())) (fun i g hi hg'=>by
  unfold P.s_l01Total_b1;dsimp only at hg' ⊢;have e1:(i:Int)<(qs.length:Int):=by omega
  have e2:(0:Int)<=(i:Int):=by omega
  have e3:(i:Int)<((qs.map (rp B10)).length:Int):=by rw[List.length_map];omega
  rw[if_pos (decide_eq_true e1),if_pos (decide_eq_true e2),if_pos (decide_eq_true e3),getD_cast (qs.map (rp B10)) i _ (by rw[List.length_map];exact hi),List.getElem_map];have ea:=s_l01Total_add (sumQ (qs.take i)) qs[i] (lowb_rp9 (by decide) (hg i).1 (hg i).2 (by decide)) (lowb_rp9 (by decide) (hq _ (List.getElem_mem hi)).1 (hq _ (List.getElem_mem hi)).2 (by decide));rw[sumQ_take hi]at ea;show Option.bind (S.s_l01Sum (rp B10 (sumQ (qs.take i)),(rp B10 qs[i],()))) _=_;rw[ea,Option.bind_some,wr (by omega) (by omega)];exact hg') (fun g=>by
  unfold P.s_l01Total_b1;dsimp only;rw[if_neg (by simp),List.take_length]) (by omega)
 exact key
abbrev P.s_l01Positive_b0 (x1:Int×Int×List RB×Unit) (g2:Int×Int×List RB×Unit->Option (Bool×Unit)):Option (Bool×Unit):=
 if decide (x1.1<x1.2.1)then if decide (0<=x1.1)then if decide (x1.1<(x1.2.2.1.length:Int))then if(x1.2.2.1.getD x1.1.toNat (false,[],[])).1 then some (false,())else g2 (wrap .i64 (x1.1+1),x1.2.1,x1.2.2.1,())else none else none else some (true,())
def P.s_l01Positive (k:Nat) (x:List RB×Unit):Option (Bool×Unit):=
 loopP P.s_l01Positive_b0 k (0,(x.1.length:Int),x.1,())
def S.s_l01Positive (x:((List RB)×Unit)):(Option (Bool×Unit)):=if x.1.length<=1000000000 then some (!(x.1.any fun r=>r.1),())else none
theorem S.s_l01Positive_ok (x r) (h:S.s_l01Positive x=some r):∃k,P.s_l01Positive k x=some r:=by
 obtain⟨xs,u⟩:=x;unfold S.s_l01Positive at h;dsimp only at h;split at h
 case isFalse=>cases h
 rename_i hc;cases h;refine⟨xs.length+1,?_⟩;unfold P.s_l01Positive;have key:=loop_up0 (k:=xs.length+1) (b:=P.s_l01Positive_b0) (n:=xs.length) (st:=fun i=>((i:Int),(xs.length:Int),xs,())) (F:=fun i=>some (!((xs.drop i).any fun r=>r.1),())) (fun i g hi hg=>by
  unfold P.s_l01Positive_b0;dsimp only at hg ⊢;have e1:(i:Int)<(xs.length:Int):=by omega
  have e2:(0:Int)<=(i:Int):=by omega
  rw[if_pos (decide_eq_true e1),if_pos (decide_eq_true e2),if_pos (decide_eq_true e1),getD_cast xs i _ hi,List.drop_eq_getElem_cons hi,List.any_cons];cases hf:xs[i].1
  ·rw[if_neg (by decide),wr (by omega) (by omega),Bool.false_or];exact hg
  ·rw[if_pos rfl];rfl) (fun g=>by
  unfold P.s_l01Positive_b0;dsimp only;rw[if_neg (by simp),List.drop_length];rfl) (by omega)
 exact key
def P.s_l01Weights (k:Nat) (x:List RB×Unit):Option (Bool×Unit):=
 (S.s_l01Positive (x.1,())).bind fun y0=>if y0.1 then(S.s_l01Total (x.1,())).bind fun y1=>(S.s_l01One ()).bind fun y2=>(S.s_l01Equal ((y1.1.1,y1.1.2.1,y1.1.2.2),(y2.1.1,y2.1.2.1,y2.1.2.2),())).bind fun y3=>some (y3.1,())else some (false,())
open Classical in
def S.s_l01Weights (x:((List RB)×Unit)):(Option (Bool×Unit)):=if goodL B10 x.1 then some (isW (x.1.map (rv B10)),())else none
theorem S.s_l01Weights_ok (x r) (h:S.s_l01Weights x=some r):∃k,P.s_l01Weights k x=some r:=by
 obtain⟨xs,u⟩:=x;unfold S.s_l01Weights at h;dsimp only at h;split at h
 case isFalse=>cases h
 rename_i hc;obtain⟨qs,n,rfl,hg⟩:=hc;cases h;refine⟨0,?_⟩;rw[map_rv B10_le];unfold P.s_l01Weights S.s_l01Positive;dsimp only;have hlen:=good_len hg;rw[if_pos (by rw[List.length_map];omega),Option.bind_some,any_rp];dsimp only;unfold isW;have es:S.s_l01Total (qs.map (rp B10),())=some (rp B10 (sumQ qs),()):=by
  unfold S.s_l01Total;dsimp only;rw[if_pos (goodL_S ⟨qs,n,rfl,hg⟩),map_rv B10_le]
 have h1:S.s_l01One ()=some (rp B10 oneQ,()):=by rfl
 have eo:S.s_l01Equal (rp B10 (sumQ qs),(rp B10 oneQ,()))=some (isOneQ (sumQ qs),()):=by
  unfold S.s_l01Equal;dsimp only;rw[if_pos ⟨good_rok (by decide) hg,below_rok (B:=B10) (by decide) (oneQ_below (by decide))⟩,rv_rp B10_le,rv_rp B10_le];unfold isOneQ oneQ;dsimp only;rw[Nat.mul_one,Nat.one_mul]
 cases hm:(qs.any fun r=>r.1)
 ·rw[if_pos (show(!false)=true by rfl),es,Option.bind_some,h1,Option.bind_some];show Option.bind (S.s_l01Equal (rp B10 (sumQ qs),(rp B10 oneQ,()))) _=_;rw[eo,Option.bind_some];rfl
 ·rfl
abbrev s_l03Parse.A:=Int×Int×List (List ByteArray)×Int×List (List RB)×List (List RB)×Unit
abbrev s_l03Parse.B:=Option ((List (List RB)×Bool)×Unit)
abbrev P.s_l03Parse_b0 (x1:s_l03Parse.A) (g2:s_l03Parse.A->s_l03Parse.B):s_l03Parse.B:=
 if decide (x1.1<x1.2.1)then if decide (0<=x1.1)then if decide (x1.1<(x1.2.2.1.length:Int))then if(List.length (x1.2.2.1.getD x1.1.toNat []):Int) != x1.2.2.2.1 then some (([],false),())else if decide (0<=x1.1)then if decide (x1.1<(x1.2.2.1.length:Int))then(S.s_l01List (x1.2.2.1.getD x1.1.toNat [],())).bind fun y3=>if !y3.1.2 then some (([],false),())else(S.s_l01Weights (y3.1.1,())).bind fun y4=>if !y4.1 then some (([],false),())else if decide (((x1.2.2.2.2.2.1.length+(List.length [y3.1.1]))*24)<=140737488355328)then g2 (wrap .i64 (x1.1+1),x1.2.1,x1.2.2.1,x1.2.2.2.1,x1.2.2.2.2.1,x1.2.2.2.2.2.1++[y3.1.1],())else none else none else none else none else none else some ((x1.2.2.2.2.2.1,true),())
def P.s_l03Parse (k:Nat) (x:List (List ByteArray)×Unit):s_l03Parse.B:=
 if decide ((x.1.length:Int)<1)then some (([],false),())else if decide ((x.1.length:Int)>12)then some (([],false),())else loopP P.s_l03Parse_b0 k (0,(x.1.length:Int),x.1,(x.1.length:Int),[],[],())
def S.s_l03Parse (x:((List (List ByteArray))×Unit)):(Option (((List (List RB))×Bool)×Unit)):=if x.1.all okT=true then some (((chQ x.1).1.map (fun r=>r.map (rp B10)),(chQ x.1).2),())else none
theorem S.s_l03Parse_ok (x r) (h:S.s_l03Parse x=some r):∃k,P.s_l03Parse k x=some r:=by
 obtain⟨rows,u⟩:=x;unfold S.s_l03Parse at h;dsimp only at h;split at h
 case isFalse=>cases h
 rename_i hc;cases h;refine⟨rows.length+1,?_⟩;unfold P.s_l03Parse chQ;dsimp only
 by_cases h1:1<=rows.length
 case neg=>
  rw[if_pos (decide_eq_true (show(rows.length:Int)<1 by omega)),decide_eq_false h1];rfl
 rw[if_neg (by simpa using(show ¬(rows.length:Int)<1 by omega)),decide_eq_true h1]
 by_cases h2:rows.length<=12
 case neg=>
  rw[if_pos (decide_eq_true (show(rows.length:Int)>12 by omega)),decide_eq_false h2];rfl
 rw[if_neg (by simpa using(show ¬(rows.length:Int)>12 by omega)),decide_eq_true h2];simp only[Bool.true_and];have key:=loop_up0 (k:=rows.length+1) (b:=P.s_l03Parse_b0) (n:=rows.length) (st:=fun i=>((i:Int),(rows.length:Int),rows,(rows.length:Int),([]:List (List (Bool×(List Int×List Int)))),(rows.take i).map (fun r=>(rdAll r).1.map (rp B10)),())) (F:=fun i=>some (if((rows.drop i).all fun r=>decide (r.length=rows.length)&&(wtAll r).2)=true then(rows.map (fun r=>(rdAll r).1.map (rp B10)),true)else([],false),())) (fun i g hi hg'=>by
  have e1:(i:Int)<(rows.length:Int):=by omega
  have e2:(0:Int)<=(i:Int):=by omega
  have hr:okT rows[i]=true:=List.all_eq_true.1 hc _ (List.getElem_mem hi);have e4:(((rows.take i).map (fun r=>(rdAll r).1.map (rp B10))).length+1)*24<=140737488355328:=by
   rw[List.length_map,List.length_take];omega
  unfold P.s_l03Parse_b0;dsimp only at hg' ⊢;simp only[e1,e2,decide_true,if_true];rw[getD_cast rows i _ hi,List.drop_eq_getElem_cons hi,List.all_cons]
  by_cases hl:rows[i].length=rows.length
  case neg=>
   rw[if_pos (by simp;omega),decide_eq_false hl,Bool.false_and,Bool.false_and,if_neg (by decide)]
  rw[if_neg (by simp;omega),decide_eq_true hl,Bool.true_and,wtAll_snd];have ew:S.s_l01List (rows[i],())=some (((rdAll rows[i]).1.map (rp B10),(rdAll rows[i]).2),()):=by
   unfold S.s_l01List;exact if_pos hr
  rw[ew,Option.bind_some];dsimp only;cases w1:(rdAll rows[i]).2
  ·rw[if_pos (by decide),Bool.false_and,Bool.false_and,if_neg (by decide)]
  have eW:S.s_l01Weights ((rdAll rows[i]).1.map (rp B10),())=some (isW (rdAll rows[i]).1,()):=by
   unfold S.s_l01Weights;dsimp only;rw[if_pos (rdAll_goodL w1),map_rv B10_le]
  rw[if_neg (by decide),eW,Option.bind_some,Bool.true_and];dsimp only;cases hw:isW (rdAll rows[i]).1
  ·rw[if_pos (by decide),Bool.false_and,if_neg (by decide)]
  rw[if_neg (by decide),Bool.true_and];simp only[List.length_cons,List.length_nil,Nat.zero_add];rw[if_pos (decide_eq_true e4),wr (by omega) (by omega),<-hg',List.take_add_one,List.getElem?_eq_getElem hi,Option.toList_some,List.map_append];rfl) (fun g=>by
  unfold P.s_l03Parse_b0;dsimp only;rw[if_neg (by simp),List.take_length,List.drop_length];rfl) (by omega)
 rw[List.drop_zero]at key;refine Eq.trans key ?_
 by_cases ha:(rows.all fun r=>decide (r.length=rows.length)&&(wtAll r).2)=true
 ·rw[if_pos ha,if_pos ha,List.map_map];rfl
 ·rw[if_neg ha,if_neg ha];rfl
def P.s_l01Times (k:Nat) (x:RB×RB×Unit):Option (RB×Unit):=
 (S.s_l01NatMul (x.1.2.1,x.2.1.2.1,())).bind fun y0=>(S.s_l01NatMul (x.1.2.2,x.2.1.2.2,())).bind fun y1=>(S.s_l01Make (! (x.1.1==x.2.1.1),y0.1,y1.1,())).bind fun y2=>some ((y2.1.1,y2.1.2.1,y2.1.2.2),())
def S.s_l01Times (x:(RB×(RB×Unit))):(Option (RB×Unit)):=if lowb B10 40000000 x.1=true/\lowb B10 40000000 x.2.1=true then some (rp B10 (mulQ (rv B10 x.1) (rv B10 x.2.1)),())else none
theorem S.s_l01Times_ok (x r) (h:S.s_l01Times x=some r):∃k,P.s_l01Times k x=some r:=by
 obtain⟨x,y,u⟩:=x;unfold S.s_l01Times at h;dsimp only at h;split at h
 case isFalse=>cases h
 rename_i hc;obtain⟨hx,hy⟩:=hc;cases h;rw[lowb_iff]at hx hy;obtain⟨hx,lx⟩:=hx;obtain⟨hy,ly⟩:=hy;obtain⟨n1,p1,q1,rfl,x1,x2⟩:=rok_nd hx;obtain⟨n2,p2,q2,rfl,y1,y2⟩:=rok_nd hy;rw[rv_nd B10_le]at lx ly ⊢;rw[rv_nd B10_le];have hq1:0<q1:=lx.1;have hq2:0<q2:=ly.1;have m1:=nd_mul_len B10_le p1 p2;have m2:=nd_mul_len B10_le q1 q2;have mul:∀p q:Nat,(nd B10 p).length<=100000000->(nd B10 q).length<=100000000->S.s_l01NatMul (nd B10 p,(nd B10 q,()))=some (nd B10 (p*q),()):=by
  intro p q hp hq;unfold S.s_l01NatMul;dsimp only;rw[if_pos ⟨dig_nd B10_le _,dig_nd B10_le _,by omega,by omega⟩,dval_nd B10_le,dval_nd B10_le]
 refine⟨0,?_⟩;unfold P.s_l01Times mulQ;dsimp only;rw[mul p1 p2 (by omega) (by omega),Option.bind_some,mul q1 q2 (by omega) (by omega),Option.bind_some];unfold S.s_l01Make;dsimp only;rw[if_pos ⟨canon_nd B10_le _,canon_nd B10_le _,nd_ne B10_le (Nat.ne_of_gt (Nat.mul_pos hq1 hq2)),by omega,by omega⟩,Option.bind_some,dval_nd B10_le,dval_nd B10_le];rfl
theorem rs_mul {x y:Q3} {m n:Nat} (hx:low x) (bx:below m x) (hy:low y) (bY:below n y) (hm:m<=350000000) (hn:n<=350000000):S.s_l01Times (rp B10 x,(rp B10 y,()))=some (rp B10 (mulQ x y),()):=by
 unfold S.s_l01Times;dsimp only;rw[if_pos ⟨lowb_rp9 (by decide) hx bx (by omega),lowb_rp9 (by decide) hy bY (by omega)⟩,rv_rp B10_le,rv_rp B10_le]
def P.s_l01Over (k:Nat) (x:RB×RB×Unit):Option (RB×Unit):=
 (S.s_l01NatMul (x.1.2.1,x.2.1.2.2,())).bind fun y0=>(S.s_l01NatMul (x.1.2.2,x.2.1.2.1,())).bind fun y1=>(S.s_l01Make (! (x.1.1==x.2.1.1),y0.1,y1.1,())).bind fun y2=>some ((y2.1.1,y2.1.2.1,y2.1.2.2),())
def S.s_l01Over (x:(RB×(RB×Unit))):(Option (RB×Unit)):=if lowb B10 40000000 x.1=true/\lowb B10 40000000 x.2.1=true/\(rv B10 x.2.1).2.1≠0 then some (rp B10 (overQ (rv B10 x.1) (rv B10 x.2.1)),())else none
theorem S.s_l01Over_ok (x r) (h:S.s_l01Over x=some r):∃k,P.s_l01Over k x=some r:=by
 obtain⟨x,y,u⟩:=x;unfold S.s_l01Over at h;dsimp only at h;split at h
 case isFalse=>cases h
 rename_i hc;obtain⟨hx,hy,h0⟩:=hc;cases h;rw[lowb_iff]at hx hy;obtain⟨hx,lx⟩:=hx;obtain⟨hy,ly⟩:=hy;obtain⟨n1,p1,q1,rfl,x1,x2⟩:=rok_nd hx;obtain⟨n2,p2,q2,rfl,y1,y2⟩:=rok_nd hy;rw[rv_nd B10_le]at lx ly h0 ⊢;rw[rv_nd B10_le];have hq1:0<q1:=lx.1;have hq2:0<p2:=Nat.pos_of_ne_zero h0;have m1:=nd_mul_len B10_le p1 q2;have m2:=nd_mul_len B10_le q1 p2;have mul:∀p q:Nat,(nd B10 p).length<=100000000->(nd B10 q).length<=100000000->S.s_l01NatMul (nd B10 p,(nd B10 q,()))=some (nd B10 (p*q),()):=by
  intro p q hp hq;unfold S.s_l01NatMul;dsimp only;rw[if_pos ⟨dig_nd B10_le _,dig_nd B10_le _,by omega,by omega⟩,dval_nd B10_le,dval_nd B10_le]
 refine⟨0,?_⟩;unfold P.s_l01Over overQ;dsimp only;rw[mul p1 q2 (by omega) (by omega),Option.bind_some,mul q1 p2 (by omega) (by omega),Option.bind_some];unfold S.s_l01Make;dsimp only;rw[if_pos ⟨canon_nd B10_le _,canon_nd B10_le _,nd_ne B10_le (Nat.ne_of_gt (Nat.mul_pos hq1 hq2)),by omega,by omega⟩,Option.bind_some,dval_nd B10_le,dval_nd B10_le];rfl
theorem rs_over {x y:Q3} {m n:Nat} (hx:low x) (bx:below m x) (hy:low y) (bY:below n y) (h0:y.2.1≠0) (hm:m<=350000000) (hn:n<=350000000):S.s_l01Over (rp B10 x,(rp B10 y,()))=some (rp B10 (overQ x y),()):=by
 unfold S.s_l01Over;dsimp only;rw[if_pos ⟨lowb_rp9 (by decide) hx bx (by omega),lowb_rp9 (by decide) hy bY (by omega),by rw[rv_rp B10_le];exact h0⟩,rv_rp B10_le,rv_rp B10_le]
abbrev P.s_l00Has_b0 (x1:Int×List Int×Int×Unit) (g2:Int×List Int×Int×Unit->Option (Bool×Unit)):Option (Bool×Unit):=
 if decide (x1.1<(x1.2.1.length:Int))then if decide (0<=x1.1)then if decide (x1.1<(x1.2.1.length:Int))then if(x1.2.1.getD x1.1.toNat 0)==x1.2.2.1 then some (true,())else g2 (wrap .i64 (x1.1+1),x1.2.1,x1.2.2.1,())else none else none else some (false,())
def P.s_l00Has (k:Nat) (x:List Int×Int×Unit):Option (Bool×Unit):=
 loopP P.s_l00Has_b0 k (0,x.1,x.2.1,())
def S.s_l00Has (x:((List Int)×(Int×Unit))):(Option (Bool×Unit)):=if x.1.length<=1000000 then some (decide (x.2.1∈x.1),())else none
theorem S.s_l00Has_ok (x r) (h:S.s_l00Has x=some r):∃k,P.s_l00Has k x=some r:=by
 obtain⟨xs,n,u⟩:=x;unfold S.s_l00Has at h;dsimp only at h;split at h
 case isFalse=>cases h
 rename_i hc;cases h;refine⟨xs.length+1,?_⟩;unfold P.s_l00Has;dsimp only;have key:=loop_up0 (k:=xs.length+1) (b:=P.s_l00Has_b0) (n:=xs.length) (st:=fun i=>((i:Int),xs,n,())) (F:=fun i=>some (decide (n∈xs.drop i),())) (fun i g hi hg=>by
  unfold P.s_l00Has_b0;dsimp only at hg ⊢;have e1:(i:Int)<(xs.length:Int):=by omega
  have e2:(0:Int)<=(i:Int):=by omega
  simp only[e1,e2,decide_true,if_true];rw[getD_cast xs i _ hi,List.drop_eq_getElem_cons hi,wr (by omega) (by omega)]
  by_cases he:xs[i]=n
  ·rw[if_pos (by simp [he]),decide_eq_true (by rw[he];exact List.mem_cons_self ..)]
  ·rw[if_neg (by simp [he])];refine Eq.trans hg ?_;congr 2;rw[decide_eq_decide,List.mem_cons];exact⟨Or.inr,fun h=>h.resolve_left fun e=>he e.symm⟩) (fun g=>by
  unfold P.s_l00Has_b0;dsimp only;rw[if_neg (by simp),List.drop_length];rfl) (by omega)
 rw[List.drop_zero]at key;exact key
abbrev P.s_l00Put_b0 (x1:Int×List Int×Bool×Int×List Int×Unit) (g2:Int×List Int×Bool×Int×List Int×Unit->Option (List Int×Unit)):Option (List Int×Unit):=
 (fun(a d:Int) (b e:List Int) (c:Bool)=>if decide (a<(b.length:Int))then if !c then if decide (0<=a)then if decide (a<(b.length:Int))then if decide ((b.getD a.toNat 0)>=d)then if decide (0<=a)then if decide (a<(b.length:Int))then if decide ((b.getD a.toNat 0)>d)then if decide (((e.length+(List.length [d]))*8)<=140737488355328)then if decide (0<=a)then if decide (a<(b.length:Int))then if decide ((((List.length (e++[d]))+(List.length [b.getD a.toNat 0]))*8)<=140737488355328)then g2 (wrap .i64 (a+1),b,true,d,(e++[d])++[b.getD a.toNat 0],())else none else none else none else none else if decide (0<=a)then if decide (a<(b.length:Int))then if decide (((e.length+(List.length [b.getD a.toNat 0]))*8)<=140737488355328)then g2 (wrap .i64 (a+1),b,true,d,e++[b.getD a.toNat 0],())else none else none else none else none else none else if decide (0<=a)then if decide (a<(b.length:Int))then if decide (((e.length+(List.length [b.getD a.toNat 0]))*8)<=140737488355328)then g2 (wrap .i64 (a+1),b,c,d,e++[b.getD a.toNat 0],())else none else none else none else none else none else if decide (0<=a)then if decide (a<(b.length:Int))then if decide (((e.length+(List.length [b.getD a.toNat 0]))*8)<=140737488355328)then g2 (wrap .i64 (a+1),b,c,d,e++[b.getD a.toNat 0],())else none else none else none else if !c then if decide (((e.length+(List.length [d]))*8)<=140737488355328)then some (e++[d],())else none else some (e,())) x1.1 x1.2.2.2.1 x1.2.1 x1.2.2.2.2.1 x1.2.2.1
def P.s_l00Put (k:Nat) (x:List Int×Int×Unit):Option (List Int×Unit):=
 loopP P.s_l00Put_b0 k (0,x.1,false,x.2.1,[],())
def S.s_l00Put (x:((List Int)×(Int×Unit))):(Option ((List Int)×Unit)):=if x.1.length<=1000000 then some (putL x.1 x.2.1,())else none
theorem S.s_l00Put_ok (x r) (h:S.s_l00Put x=some r):∃k,P.s_l00Put k x=some r:=by
 obtain⟨xs,n,u⟩:=x;unfold S.s_l00Put at h;dsimp only at h;split at h
 case isFalse=>cases h
 rename_i hc;cases h;refine⟨xs.length+1,?_⟩;unfold P.s_l00Put;dsimp only;have all:∀m i k out,i+m=xs.length->m<k->out.length<=i+1->loopP P.s_l00Put_b0 k ((i:Int),xs,true,n,out,())=some (out++xs.drop i,()):=by
  intro m
  induction m with
  |zero=>
   intro i k out hi hk _;cases k with
   |zero=>omega
   |succ k=>
    rw[loopP_succ];unfold P.s_l00Put_b0;dsimp only;rw[if_neg (by simp;omega),List.drop_of_length_le (by omega),List.append_nil];rfl
  |succ m ih=>
   intro i k out hi hk ho;cases k with
   |zero=>omega
   |succ k=>
    have hi':i<xs.length:=by omega
    have e1:(i:Int)<(xs.length:Int):=by omega
    have e2:(0:Int)<=(i:Int):=by omega
    have e3:(out.length+1)*8<=140737488355328:=by omega
    have:=ih (i+1) k (out++[xs[i]]) (by omega) (by omega) (by simp;omega);rw[loopP_succ];generalize loopP P.s_l00Put_b0 k=G at this ⊢;unfold P.s_l00Put_b0;dsimp only;simp only[e1,e2,e3,decide_true,if_true,Bool.not_true,Bool.false_eq_true,if_false,List.length_cons,List.length_nil,Nat.zero_add];rw[getD_cast xs i _ hi',wr (by omega) (by omega)];rw[List.drop_eq_getElem_cons hi'];rw[List.append_assoc]at this;exact this
 have key:∀m i k,i+m=xs.length->m<k->loopP P.s_l00Put_b0 k ((i:Int),xs,false,n,xs.take i,())=some (xs.take i++putL (xs.drop i) n,()):=by
  intro m
  induction m with
  |zero=>
   intro i k hi hk;cases k with
   |zero=>omega
   |succ k=>
    have e3:((xs.take i).length+1)*8<=140737488355328:=by rw[List.length_take];omega
    rw[loopP_succ];unfold P.s_l00Put_b0;dsimp only;rw[if_neg (by simp;omega),if_pos (show(!false)=true from rfl),List.drop_of_length_le (by omega)];simp only[List.length_cons,List.length_nil,Nat.zero_add,e3,decide_true,if_true];rfl
  |succ m ih=>
   intro i k hi hk;cases k with
   |zero=>omega
   |succ k=>
    have hi':i<xs.length:=by omega
    have e1:(i:Int)<(xs.length:Int):=by omega
    have e2:(0:Int)<=(i:Int):=by omega
    have hl:(xs.take i).length=i:=by rw[List.length_take];omega
    have e3:(i+1)*8<=140737488355328:=by omega
    have e4:(i+1+1)*8<=140737488355328:=by omega
    have t1:=all m (i+1) k ((xs.take i++[n])++[xs[i]]) (by omega) (by omega) (by simp;omega);have t2:=all m (i+1) k (xs.take i++[xs[i]]) (by omega) (by omega) (by simp;omega);have t3:=ih (i+1) k (by omega) (by omega);rw[loopP_succ];generalize loopP P.s_l00Put_b0 k=G at t1 t2 t3 ⊢;unfold P.s_l00Put_b0;dsimp only;simp only[e1,e2,e3,e4,hl,decide_true,if_true,Bool.not_false,List.length_append,List.length_cons,List.length_nil,Nat.zero_add];rw[getD_cast xs i _ hi',wr (by omega) (by omega),List.drop_eq_getElem_cons hi',putL]
    by_cases h1:n<=xs[i]
    ·rw[if_pos (decide_eq_true h1),if_pos h1]
     by_cases h2:n<xs[i]
     ·rw[if_pos (decide_eq_true h2),if_pos h2];refine Eq.trans t1 ?_;simp
     ·rw[if_neg (by simpa using h2),if_neg h2];refine Eq.trans t2 ?_;simp
    ·rw[if_neg (by simpa using h1),if_neg h1];rw[<-List.take_append_getElem hi',List.append_assoc]at t3;exact t3
 have:=key xs.length 0 (xs.length+1) (by omega) (by omega);simpa using this
def P.s_l01Zero (k:Nat) (x:RB×Unit):Option (Bool×Unit):=
 some ((x.1.2.1.length:Int)==0,())
def S.s_l01Zero (x:(RB×Unit)):(Option (Bool×Unit)):=P.s_l01Zero 0 x
theorem S.s_l01Zero_ok (x r) (h:S.s_l01Zero x=some r):∃k,P.s_l01Zero k x=some r:=⟨0,h⟩
abbrev s_l03Reach.A:=Int×List Int×List (List RB)×List Int×Unit
abbrev s_l03Reach.B:=Option (List Int×Unit)
abbrev P.s_l03Reach_b3 (g2:s_l03Reach.A->s_l03Reach.B) (x4:Int×Int×List (List RB)×List Int×Int×List Int×Unit) (g5:Int×Int×List (List RB)×List Int×Int×List Int×Unit->s_l03Reach.B):s_l03Reach.B:=
 (fun(a b e:Int) (c:List (List RB)) (d f:List Int)=>if decide (a<b)then if decide (0<=e)then if decide (e<(d.length:Int))then if decide (0<=(d.getD (0+e.toNat) 0))then if decide ((d.getD (0+e.toNat) 0)<(c.length:Int))then if decide (0<=a)then if decide (a<(List.length (c.getD (Int.toNat (d.getD (0+e.toNat) 0)) []):Int))then(S.s_l01Zero (((List.getD (c.getD (Int.toNat (d.getD (0+e.toNat) 0)) []) a.toNat (false,[],[])).1,(List.getD (c.getD (Int.toNat (d.getD (0+e.toNat) 0)) []) a.toNat (false,[],[])).2.1,(List.getD (c.getD (Int.toNat (d.getD (0+e.toNat) 0)) []) a.toNat (false,[],[])).2.2),())).bind fun y6=>if !y6.1 then(S.s_l00Has (f,a,())).bind fun y7=>if !y7.1 then(S.s_l00Put (f,a,())).bind fun y8=>if decide (((d.length+(List.length [a]))*8)<=140737488355328)then g5 (wrap .i64 (a+1),b,c,d++[a],e,y8.1,())else none else g5 (wrap .i64 (a+1),b,c,d,e,f,())else g5 (wrap .i64 (a+1),b,c,d,e,f,())else none else none else none else none else none else none else g2 (wrap .i64 (e+1),d,c,f,())) x4.1 x4.2.1 x4.2.2.2.2.1 x4.2.2.1 x4.2.2.2.1 x4.2.2.2.2.2.1
abbrev P.s_l03Reach_b0 (k:Nat) (x1:s_l03Reach.A) (g2:s_l03Reach.A->s_l03Reach.B):s_l03Reach.B:=
 if decide (x1.1<(x1.2.1.length:Int))then loopP (P.s_l03Reach_b3 g2) k (0,(x1.2.2.1.length:Int),x1.2.2.1,x1.2.1,x1.1,x1.2.2.2.1,())else some (x1.2.2.2.1,())
def P.s_l03Reach (k:Nat) (x:List (List RB)×Int×Unit):s_l03Reach.B:=
 loopP (P.s_l03Reach_b0 k) k (0,[x.2.1],x.1,[x.2.1],())
theorem zero_rp (q:Q3):S.s_l01Zero (((rp B10 q).1,(rp B10 q).2.1,(rp B10 q).2.2),())=some (decide (q.2.1=0),()):=by
 unfold S.s_l01Zero P.s_l01Zero rp;dsimp only;congr 2;rw[Bool.eq_iff_iff,beq_iff_eq,decide_eq_true_iff,<-nd_zero_iff (B:=B10) (by decide),<-List.length_eq_zero_iff];omega
theorem reS_inner {M:List (List Q3)} (hM:isM M) {i:Nat} (hi:i<M.length) (pre:List Nat) {sn:List Bool} {td:List Nat} (hb:Bok M.length (sn,td)) (hm:pre.length+td.length+sn.count false<=1000000)
  (g) {K:Nat} (hK:M.length<K):
  loopP (P.s_l03Reach_b3 g) K ((0:Int),(M.length:Int),mp B10 M,zs (pre++i::td),(pre.length:Int),posF 0 sn,())=g (((pre.length+1:Nat):Int),zs (pre++i::(scanB (adj M i) M.length (sn,td)).2),mp B10 M,posF 0 (scanB (adj M i) M.length (sn,td)).1,()):=by
 have hrow:=isM_row hM hi;have hn:=hM.1;have key:=loop_up0 (k:=K) (b:=P.s_l03Reach_b3 g) (n:=M.length) (st:=fun j=>((j:Int),(M.length:Int),mp B10 M,zs (pre++i::((List.range j).foldl (stepB (adj M i)) (sn,td)).2),(pre.length:Int),posF 0 ((List.range j).foldl (stepB (adj M i)) (sn,td)).1,())) (F:=fun _=>g (((pre.length+1:Nat):Int),zs (pre++i::(scanB (adj M i) M.length (sn,td)).2),mp B10 M,posF 0 (scanB (adj M i) M.length (sn,td)).1,())) (fun j g' hj hg=>by
  unfold P.s_l03Reach_b3;dsimp only at hg ⊢;obtain⟨b1,b2⟩:=foldB_ok (a:=adj M i) hb j (by omega);rw[fold_succ]at hg;generalize (List.range j).foldl (stepB (adj M i)) (sn,td)=s at b1 b2 hg ⊢;have b3:s.2.length<=td.length+sn.count false:=by
   dsimp only at b2;omega
  have e0:(zs (pre++i::s.2)).length=pre.length+s.2.length+1:=by simp [zs];omega
  have e1:(j:Int)<(M.length:Int):=by omega
  have e2:(0:Int)<=(j:Int):=by omega
  have e3:(zs (pre++i::s.2)).getD (0+Int.toNat (pre.length:Int)) 0=(i:Int):=by
   rw[getD_zs,Nat.zero_add,Int.toNat_natCast,List.getD_eq_getElem?_getD,List.getElem?_append_right (Nat.le_refl _)];simp
  have e4:(0:Int)<=(pre.length:Int):=by omega
  have e5:(pre.length:Int)<((pre.length+s.2.length+1:Nat):Int):=by omega
  have e6:(0:Int)<=(i:Int):=by omega
  have e7:(i:Int)<((mp B10 M).length:Int):=by rw[mp_len];omega
  have e8:(pre.length+s.2.length+1+1)*8<=140737488355328:=by omega
  have e9:(((M.getD i []).map (rp B10)).length:Int)=(M.length:Int):=by rw[List.length_map,hrow.1]
  have pl:=posF_len 0 s.1;have bl:s.1.length=M.length:=b1.len;have eh:S.s_l00Has (posF 0 s.1,(j:Int),())=some (s.1.getD j false,()):=by
   unfold S.s_l00Has;dsimp only;have:=posF_mem 0 s.1 j;rw[Int.zero_add]at this;rw[if_pos (by omega),this]
  have ep:S.s_l00Put (posF 0 s.1,(j:Int),())=some (posF 0 (s.1.set j true),()):=by
   unfold S.s_l00Put;dsimp only;have:=posF_put 0 s.1 j (by omega);rw[Int.zero_add]at this;rw[if_pos (by omega),this]
  rw[e0,e3,Int.toNat_natCast,mp_at hi,Int.toNat_natCast,getD_rp B10 (by rw[hrow.1];exact hj),zero_rp,Option.bind_some];simp only[e1,e2,e4,e5,e6,e7,e8,e9,decide_true,if_true,List.length_cons,List.length_nil,Nat.zero_add];rw[eh,ep,wr (by omega) (by omega)];simp only[Option.bind_some];have ha':(!decide (((M.getD i []).getD j zeroQ).2.1=0))=adj M i j:=by
   unfold adj;simp
  rw[ha'];unfold stepB at hg;cases ha:adj M i j
  ·rw[ha,if_neg (by simp)]at hg;rw[if_neg (by decide)];exact hg
  ·rw[if_pos rfl];cases hs:s.1.getD j false
   ·rw[ha,hs,if_pos ⟨rfl,rfl⟩]at hg;rw[if_pos (by decide),<-hg];simp [zs]
   ·rw[ha,hs,if_neg (by simp)]at hg;rw[if_neg (by decide)];exact hg) (fun g'=>by
  unfold P.s_l03Reach_b3;dsimp only;rw[if_neg (by simp),wr (by omega) (by omega)];rfl) hK
 exact key
theorem reS_outer {M:List (List Q3)} (hM:isM M) {K:Nat} (hK:M.length<K):∀(f k:Nat) (pre:List Nat) (sn:List Bool) (td:List Nat),Bok M.length (sn,td)->td.length+sn.count false<=f->f<k->pre.length+f<=1000000->loopP (P.s_l03Reach_b0 K) k ((pre.length:Int),zs (pre++td),mp B10 M,posF 0 sn,())=some (posF 0 (bfs (adj M) M.length f sn td),()):=by
 intro f
 induction f with
 |zero=>
  intro k pre sn td hb hm hk hf;cases k with
  |zero=>omega
  |succ k=>
   have:td=[]:=List.eq_nil_of_length_eq_zero (by omega);subst this;rw[loopP_succ];unfold P.s_l03Reach_b0;dsimp only;rw[if_neg (by simp [zs])];rfl
 |succ f ih=>
  intro k pre sn td hb hm hk hf;cases k with
  |zero=>omega
  |succ k=>
   rw[loopP_succ];cases td with
   |nil=>
    unfold P.s_l03Reach_b0;dsimp only;rw[if_neg (by simp [zs])];rfl
   |cons i r=>
    have hi:i<M.length:=hb.lt i (List.mem_cons_self ..);have hb':Bok M.length (sn,r):=⟨hb.len,fun t ht=>hb.lt t (List.mem_cons_of_mem _ ht)⟩
    have hm':r.length+sn.count false<=f:=by
     rw[List.length_cons]at hm;omega
    unfold P.s_l03Reach_b0;dsimp only;rw[if_pos (decide_eq_true (by simp [zs];omega)),mp_len,reS_inner hM hi pre hb' (by omega) _ hK,bfs];obtain⟨c1,c2⟩:=foldB_ok (a:=adj M i) hb' M.length (Nat.le_refl _);have:=ih k (pre++[i]) _ _ c1 (by
     have:(scanB (adj M i) M.length (sn,r)).2.length+(scanB (adj M i) M.length (sn,r)).1.count false=r.length+sn.count false:=c2;exact Nat.le_trans (Nat.le_of_eq this) hm') (by omega) (by simp;omega)
    rw[List.append_assoc,List.length_append]at this;exact this
open Classical in
def S.s_l03Reach (x:((List (List RB))×(Int×Unit))):(Option ((List Int)×Unit)):=if(∃M,isM M/\x.1=mp B10 M)/\0<=x.2.1/\x.2.1<(x.1.length:Int)then some (posF 0 (reachB (adj (mv B10 x.1)) x.1.length x.2.1.toNat),())else none
theorem S.s_l03Reach_ok (x r) (h:S.s_l03Reach x=some r):∃k,P.s_l03Reach k x=some r:=by
 obtain⟨m,s,u⟩:=x;unfold S.s_l03Reach at h;dsimp only at h;split at h
 case isFalse=>cases h
 rename_i hc;obtain⟨⟨M,hM,rfl⟩,h0,h1⟩:=hc;cases h;obtain⟨s,rfl⟩:=Int.eq_ofNat_of_zero_le h0;rw[mv_mp (by decide),mp_len]at*;have hs:s<M.length:=by omega
 have hn:=hM.1;refine⟨M.length+1,?_⟩;unfold P.s_l03Reach;dsimp only;obtain⟨c1,c2⟩:=start_ok hs;have:=reS_outer hM (K:=M.length+1) (by omega) M.length (M.length+1) [] _ [s] c1 (by omega) (by omega) (by simp;omega);rw[posF_start hs]at this;exact this
abbrev s_l03Classes.A:=Int×Int×List (List RB)×List Int×Int×List Int×Int×Bool×List Int×Int×Int×Unit
abbrev s_l03Classes.B:=Int×Int×List Int×List (List RB)×Int×List Int×Unit
abbrev s_l03Classes.C:=Option ((List Int×List Int)×Unit)
abbrev P.s_l03Classes_b7 (g5:s_l03Classes.B->s_l03Classes.C) (x8:s_l03Classes.A) (g9:s_l03Classes.A->s_l03Classes.C):s_l03Classes.C:=
 (fun(a b e h l m:Int) (c:List (List RB)) (d f j:List Int) (i:Bool)=>if decide (a<b)then if decide (0<=a)then if decide (a<(d.length:Int))then(S.s_l03Reach (c,d.getD a.toNat 0,())).bind fun y10=>(S.s_l00Has (y10.1,e,())).bind fun y11=>if y11.1 then if decide (0<=a)then if decide (a<(d.length:Int))then if decide (0<=(d.getD a.toNat 0))then if decide ((d.getD a.toNat 0)<(f.length:Int))then g9 (wrap .i64 (a+1),b,c,d,e,f.set (0+(Int.toNat (d.getD a.toNat 0))) h,h,i,j,l,m,())else none else none else none else none else g9 (wrap .i64 (a+1),b,c,d,e,f,h,false,j,l,m,())else none else none else if i then if decide (((j.length+(List.length [h]))*8)<=140737488355328)then g5 (wrap .i64 (l+1),m,f,c,wrap .i64 (h+1),j++[h],())else none else g5 (wrap .i64 (l+1),m,f,c,wrap .i64 (h+1),j,())) x8.1 x8.2.1 x8.2.2.2.2.1 x8.2.2.2.2.2.2.1 x8.2.2.2.2.2.2.2.2.2.1 x8.2.2.2.2.2.2.2.2.2.2.1 x8.2.2.1 x8.2.2.2.1 x8.2.2.2.2.2.1 x8.2.2.2.2.2.2.2.2.1 x8.2.2.2.2.2.2.2.1
abbrev P.s_l03Classes_b3 (k:Nat) (x4:s_l03Classes.B) (g5:s_l03Classes.B->s_l03Classes.C):s_l03Classes.C:=
 (fun(a b e:Int) (c f:List Int) (d:List (List RB))=>if decide (a<b)then if decide (0<=a)then if decide (a<(c.length:Int))then if decide ((c.getD (0+a.toNat) 0)>=0)then g5 (wrap .i64 (a+1),b,c,d,e,f,())else(S.s_l03Reach (d,a,())).bind fun y6=>loopP (P.s_l03Classes_b7 g5) k (0,(y6.1.length:Int),d,y6.1,a,c,e,true,f,a,b,())else none else none else some ((c,f),())) x4.1 x4.2.1 x4.2.2.2.2.1 x4.2.2.1 x4.2.2.2.2.2.1 x4.2.2.2.1
abbrev P.s_l03Classes_b0 (k:Nat) (x1:Int×Int×List Int×List (List RB)×Unit) (g2:Int×Int×List Int×List (List RB)×Unit->s_l03Classes.C):s_l03Classes.C:=
 if decide (x1.1<x1.2.1)then if decide (0<=x1.1)then if decide (x1.1<(x1.2.2.1.length:Int))then g2 (wrap .i64 (x1.1+1),x1.2.1,x1.2.2.1.set (0+x1.1.toNat) (-1:Int),x1.2.2.2.1,())else none else none else loopP (P.s_l03Classes_b3 k) k (0,(x1.2.2.1.length:Int),x1.2.2.1,x1.2.2.2.1,0,[],())
def P.s_l03Classes (k:Nat) (x:List (List RB)×Unit):s_l03Classes.C:=
 if decide (0<=(x.1.length:Int))then if decide ((x.1.length:Int)<=(x.1.length:Int))then if decide (((x.1.length:Int)*8)<=281474976710656)then loopP (P.s_l03Classes_b0 k) k (0,(List.length (List.replicate (Int.toNat (x.1.length:Int)) (0:Int)):Int),List.replicate (Int.toNat (x.1.length:Int)) 0,x.1,())else none else none else none
theorem reach_s {M:List (List Q3)} (hM:isM M) {i:Nat} (hi:i<M.length):S.s_l03Reach (mp B10 M,(i:Int),())=some (posF 0 (reachB (adj M) M.length i),()):=by
 unfold S.s_l03Reach;dsimp only;rw[if_pos ⟨⟨M,hM,rfl⟩,by omega,by rw[mp_len];omega⟩,mv_mp (by decide),mp_len,Int.toNat_natCast]
theorem has_s {M:List (List Q3)} {i j:Nat} (hi:i<M.length) (hn:M.length<=12):S.s_l00Has (posF 0 (reachB (adj M) M.length i),(j:Int),())=some (rcB M i j,()):=by
 unfold S.s_l00Has rcB;dsimp only;have h1:=posF_len 0 (reachB (adj M) M.length i);rw[reachB_len hi]at h1;have h2:=posF_mem 0 (reachB (adj M) M.length i) j;rw[Int.zero_add]at h2;rw[if_pos (by omega),h2]
theorem reach_fl {M:List (List Q3)} {i:Nat} (hi:i<M.length):posF 0 (reachB (adj M) M.length i)=zs (fl (rcB M i) M.length):=by
 have:=posF_fl 0 (reachB (adj M) M.length i);rw[reachB_len hi]at this;exact this
def upC (n:Nat) (f:Nat->Int) (c d:Nat->Bool) (k:Int) (a:Nat):List Int:=tab n fun v=>if(c v&&d v)=true/\ix c v<a then k else f v
theorem scl_inner {M:List (List Q3)} (hM:isM M) {i:Nat} (hi:i<M.length) (f:Nat->Int) (cl:List Bool) (hcl:cl.length<=12)
  (g) {K:Nat} (hK:M.length<K):
  loopP (P.s_l03Classes_b7 g) K ((0:Int),((posF 0 (reachB (adj M) M.length i)).length:Int),mp B10 M,posF 0 (reachB (adj M) M.length i),(i:Int),tab M.length f,(cl.length:Int),true,posF 0 cl,(i:Int),(M.length:Int),())=g (((i+1:Nat):Int),(M.length:Int),tab M.length (fun j=>if(rcB M i j&&rcB M j i)=true then(cl.length:Int)else f j),mp B10 M,((cl.length+1:Nat):Int),posF 0 (cl++[(List.range M.length).all fun j=> !rcB M i j||rcB M j i]),()):=by
 have hn:=hM.1;have hL:=reach_fl (M:=M) hi;have hl:(fl (rcB M i) M.length).length<=M.length:=by
  have:=List.length_filter_le (rcB M i) (List.range M.length);rw[List.length_range]at this;exact this
 rw[hL,zs_len];have key:=loop_up0 (k:=K) (b:=P.s_l03Classes_b7 g) (n:=(fl (rcB M i) M.length).length) (st:=fun a=>((a:Int),((fl (rcB M i) M.length).length:Int),mp B10 M,zs (fl (rcB M i) M.length),(i:Int),upC M.length f (rcB M i) (fun j=>rcB M j i) (cl.length:Int) a,(cl.length:Int),(List.range a).all (fun b=>rcB M ((fl (rcB M i) M.length).getD b 0) i),posF 0 cl,(i:Int),(M.length:Int),())) (F:=fun _=>g (((i+1:Nat):Int),(M.length:Int),tab M.length (fun j=>if(rcB M i j&&rcB M j i)=true then(cl.length:Int)else f j),mp B10 M,((cl.length+1:Nat):Int),posF 0 (cl++[(List.range M.length).all fun j=> !rcB M i j||rcB M j i]),())) (fun a g' ha hg=>by
  unfold P.s_l03Classes_b7;dsimp only at hg ⊢;obtain⟨f1,f2⟩:=fl_at ha;have f3:=ix_fl ha;have e1:(a:Int)<((fl (rcB M i) M.length).length:Int):=by omega
  have e2:(0:Int)<=(a:Int):=by omega
  have e3:(zs (fl (rcB M i) M.length)).getD a 0=(((fl (rcB M i) M.length).getD a 0:Nat):Int):=getD_zs _ _;rw[zs_len,Int.toNat_natCast,e3];generalize hv:(fl (rcB M i) M.length).getD a 0=v at*;rw[reach_s hM f1,Option.bind_some];dsimp only;rw[has_s f1 hn,Option.bind_some];have e4:(0:Int)<=(v:Int):=by omega
  have e5:(v:Int)<(M.length:Int):=by omega
  have e6:(upC M.length f (rcB M i) (fun j=>rcB M j i) (cl.length:Int) a).length=M.length:=tab_len _ _;simp only[e1,e2,e4,e5,e6,decide_true,if_true,Int.toNat_natCast,Nat.zero_add];rw[wr (by omega) (by omega)];rw[all_succ,hv]at hg;cases hr:rcB M v i
  ·have:upC M.length f (rcB M i) (fun j=>rcB M j i) (cl.length:Int) (a+1)=upC M.length f (rcB M i) (fun j=>rcB M j i) (cl.length:Int) a:=by
    unfold upC;apply tab_congr;intro w hw
    by_cases q:(rcB M i w&&rcB M w i)=true
    ·rw[Bool.and_eq_true]at q;have hne:ix (rcB M i) w≠a:=fun e=>by
      have:=(fl_ix hw q.1).2;rw[e,hv]at this;rw[<-this,hr]at q;cases q.2
     by_cases hlt:ix (rcB M i) w<a
     ·rw[if_pos ⟨by rw[Bool.and_eq_true];exact q,by omega⟩,if_pos ⟨by rw[Bool.and_eq_true];exact q,hlt⟩]
     ·rw[if_neg (fun r=>by omega),if_neg (fun r=>hlt r.2)]
    ·rw[if_neg (fun r=>q r.1),if_neg (fun r=>q r.1)]
   rw[this,hr,Bool.and_false]at hg;rw[if_neg (by decide)];exact hg
  ·have:(upC M.length f (rcB M i) (fun j=>rcB M j i) (cl.length:Int) a).set v (cl.length:Int)=upC M.length f (rcB M i) (fun j=>rcB M j i) (cl.length:Int) (a+1):=by
    unfold upC;rw[tab_set];apply tab_congr;intro w hw
    by_cases e:w=v
    ·subst e;rw[if_pos rfl,if_pos ⟨by dsimp only;rw[f2,hr];rfl,by omega⟩]
    ·rw[if_neg e]
     by_cases q:(rcB M i w&&rcB M w i)=true
     ·have hne:ix (rcB M i) w≠a:=fun e'=>by
       rw[Bool.and_eq_true]at q;have:=(fl_ix hw q.1).2;rw[e',hv]at this;exact e this.symm
      by_cases hlt:ix (rcB M i) w<a
      ·rw[if_pos ⟨q,hlt⟩,if_pos ⟨q,by omega⟩]
      ·rw[if_neg (fun r=>hlt r.2),if_neg (fun r=>by omega)]
     ·rw[if_neg (fun r=>q r.1),if_neg (fun r=>q r.1)]
   rw[hr,Bool.and_true]at hg;rw[if_pos rfl,this];exact hg) (fun g'=>by
  unfold P.s_l03Classes_b7;dsimp only;have hpl:=posF_len 0 cl;have e1:((posF 0 cl).length+1)*8<=140737488355328:=by omega
  have e2:upC M.length f (rcB M i) (fun j=>rcB M j i) (cl.length:Int) (fl (rcB M i) M.length).length=tab M.length fun j=>if(rcB M i j&&rcB M j i)=true then(cl.length:Int)else f j:=by
   unfold upC;apply tab_congr;intro w hw
   by_cases q:(rcB M i w&&rcB M w i)=true
   ·rw[if_pos ⟨q,(fl_ix hw (by rw[Bool.and_eq_true]at q;exact q.1)).1⟩,if_pos q]
   ·rw[if_neg (fun r=>q r.1),if_neg q]
  have e3:(List.range (fl (rcB M i) M.length).length).all (fun b=>rcB M ((fl (rcB M i) M.length).getD b 0) i)=(List.range M.length).all fun j=> !rcB M i j||rcB M j i:=by
   rw[Bool.eq_iff_iff,List.all_eq_true,List.all_eq_true];constructor
   ·intro h j hj;have hj':=List.mem_range.1 hj;cases hc:rcB M i j
    ·rfl
    ·obtain⟨q1,q2⟩:=fl_ix hj' hc;have:=h _ (List.mem_range.2 q1);rw[q2]at this;rw[this];rfl
   ·intro h b hb;obtain⟨q1,q2⟩:=fl_at (List.mem_range.1 hb);have:=h _ (List.mem_range.2 q1);rw[q2]at this;simpa using this
  rw[if_neg (by simp),e2,e3,posF_snoc,Int.zero_add];cases(List.range M.length).all fun j=> !rcB M i j||rcB M j i
  ·rw[if_neg (by decide),if_neg (by decide),List.append_nil,wr (by omega) (by omega),wr (by omega) (by omega)];rfl
  ·simp only[if_true,List.length_cons,List.length_nil,Nat.zero_add,e1,decide_true];rw[wr (by omega) (by omega),wr (by omega) (by omega)];rfl) (show(fl (rcB M i) M.length).length<K by omega)
 refine Eq.trans ?_ key;have:upC M.length f (rcB M i) (fun j=>rcB M j i) (cl.length:Int) 0=tab M.length f:=by
  unfold upC;apply tab_congr;intro w hw;rw[if_neg (fun r=>by omega)]
 rw[this];rfl
open Classical in
def S.s_l03Classes (x:((List (List RB))×Unit)):(Option (((List Int)×(List Int))×Unit)):=if ∃M,isM M/\x.1=mp B10 M then some (((clsM (mv B10 x.1)).1,posF 0 (clsM (mv B10 x.1)).2),())else none
theorem S.s_l03Classes_ok (x r) (h:S.s_l03Classes x=some r):∃k,P.s_l03Classes k x=some r:=by
 obtain⟨m,u⟩:=x;unfold S.s_l03Classes at h;dsimp only at h;split at h
 case isFalse=>cases h
 rename_i hc;obtain⟨M,hM,rfl⟩:=hc;cases h;rw[mv_mp (by decide)];have hn:=hM.1;refine⟨M.length+1,?_⟩;unfold P.s_l03Classes;dsimp only;have a1:(0:Int)<=(M.length:Int):=by omega
 have a2:(M.length:Int)*8<=281474976710656:=by omega
 rw[mp_len];simp only[a1,a2,Int.le_refl,decide_true,if_true,Int.toNat_natCast,List.length_replicate];have key:=loop_up0 (k:=M.length+1) (b:=P.s_l03Classes_b3 (M.length+1)) (n:=M.length) (st:=fun i=>((i:Int),(M.length:Int),((List.range i).foldl (clsStep (rcB M) M.length) (List.replicate M.length (-1),[])).1,mp B10 M,((((List.range i).foldl (clsStep (rcB M) M.length) (List.replicate M.length (-1),[])).2.length:Nat):Int),posF 0 ((List.range i).foldl (clsStep (rcB M) M.length) (List.replicate M.length (-1),[])).2,())) (F:=fun _=>some (((clsM M).1,posF 0 (clsM M).2),())) (fun i g hi hg=>by
  unfold P.s_l03Classes_b3;dsimp only at hg ⊢;obtain⟨l1,l2⟩:=clsF_len (rcB M) M.length i;rw[fold_succ]at hg;generalize (List.range i).foldl (clsStep (rcB M) M.length) (List.replicate M.length (-1),[])=s at l1 l2 hg ⊢;have e1:(i:Int)<(M.length:Int):=by omega
  have e2:(0:Int)<=(i:Int):=by omega
  have e3:(i:Int)<(s.1.length:Int):=by omega
  have e4:s.1.getD i 0=s.1.getD i (-1):=by
   rw[List.getD_eq_getElem?_getD,List.getD_eq_getElem?_getD,List.getElem?_eq_getElem (by omega)];rfl
  simp only[e1,e2,e3,decide_true,if_true,Int.toNat_natCast,Nat.zero_add,e4];unfold clsStep at hg
  by_cases h0:0<=s.1.getD i (-1)
  ·rw[if_pos h0]at hg;rw[if_pos (decide_eq_true h0),wr (by omega) (by omega)];exact hg
  ·rw[if_neg h0]at hg;rw[if_neg (by simpa using h0),reach_s hM hi,Option.bind_some];have hs:s.1=tab M.length fun v=>s.1.getD v (-1):=by
    conv=>lhs;rw[tab_of s.1 (-1),l1]
   rw[hs];refine Eq.trans (scl_inner hM hi (fun v=>s.1.getD v (-1)) s.2 (by omega) g (by omega)) ?_;rw[List.length_append]at hg;exact hg) (fun g=>by
  unfold P.s_l03Classes_b3;dsimp only;rw[if_neg (by simp)];rfl) (by omega)
 have pre:=loop_up0 (k:=M.length+1) (b:=P.s_l03Classes_b0 (M.length+1)) (n:=M.length) (st:=fun i=>((i:Int),(M.length:Int),List.replicate i (-1)++List.replicate (M.length - i) 0,mp B10 M,())) (F:=fun _=>some (((clsM M).1,posF 0 (clsM M).2),())) (fun i g hi hg=>by
  unfold P.s_l03Classes_b0;dsimp only at hg ⊢;have hlen:(List.replicate i (-1:Int)++List.replicate (M.length - i) 0).length=M.length:=by simp;omega
  have e1:(i:Int)<(M.length:Int):=by omega
  have e2:(0:Int)<=(i:Int):=by omega
  simp only[hlen,e1,e2,decide_true,if_true];rw[wr (by omega) (by omega),<-hg];have e3:M.length - i=(M.length - (i+1))+1:=by omega
  have e4:(0+(i:Int).toNat)=(List.replicate i (-1:Int)).length:=by rw[List.length_replicate];omega
  rw[e3,e4,set_fill];congr 2;simp [List.replicate_succ']) (fun g=>by
  unfold P.s_l03Classes_b0;dsimp only;rw[if_neg (by simp),Nat.sub_self,List.replicate_zero,List.append_nil,List.length_replicate];exact key) (by omega)
 exact pre
def P.s_l01Opposite (k:Nat) (x:RB×Unit):Option (RB×Unit):=
 if !x.1.1 then some ((decide ((x.1.2.1.length:Int)>0),x.1.2.1,x.1.2.2),())else some ((false,x.1.2.1,x.1.2.2),())
def S.s_l01Opposite (x:(RB×Unit)):(Option (RB×Unit)):=if rok B10 40000000 x.1=true then some (rp B10 (oppQ (rv B10 x.1)),())else none
theorem S.s_l01Opposite_ok (x r) (h:S.s_l01Opposite x=some r):∃k,P.s_l01Opposite k x=some r:=by
 obtain⟨x,u⟩:=x;unfold S.s_l01Opposite at h;dsimp only at h;split at h
 case isFalse=>cases h
 rename_i hc;cases h;refine⟨0,?_⟩;obtain⟨n,p,q,rfl,_,_⟩:=rok_nd hc;rw[rv_nd B10_le];unfold P.s_l01Opposite oppQ rp;dsimp only;rw[nd_len_pos B10_le];cases n
 ·rfl
 ·rfl
def P.s_l01Minus (k:Nat) (x:RB×RB×Unit):Option (RB×Unit):=
 (S.s_l01Opposite ((x.2.1.1,x.2.1.2.1,x.2.1.2.2),())).bind fun y0=>(S.s_l01Sum ((x.1.1,x.1.2.1,x.1.2.2),(y0.1.1,y0.1.2.1,y0.1.2.2),())).bind fun y1=>some ((y1.1.1,y1.1.2.1,y1.1.2.2),())
def S.s_l01Minus (x:(RB×(RB×Unit))):(Option (RB×Unit)):=if lowb B10 40000000 x.1=true/\lowb B10 40000000 x.2.1=true then some (rp B10 (addQ (rv B10 x.1) (oppQ (rv B10 x.2.1))),())else none
theorem S.s_l01Minus_ok (x r) (h:S.s_l01Minus x=some r):∃k,P.s_l01Minus k x=some r:=by
 obtain⟨x,y,u⟩:=x;unfold S.s_l01Minus at h;dsimp only at h;split at h
 case isFalse=>cases h
 rename_i hc;obtain⟨hx,hy⟩:=hc;cases h;have hy':=lowb_iff.1 hy;refine⟨0,?_⟩;have e1:S.s_l01Opposite (y,())=some (rp B10 (oppQ (rv B10 y)),()):=if_pos hy'.1;have hz:lowb B10 40000000 (rp B10 (oppQ (rv B10 y)))=true:=by
  rw[lowb_iff,rv_rp B10_le];obtain⟨n2,p2,q2,rfl,y1,y2⟩:=rok_nd hy'.1;rw[rv_nd B10_le]at hy' ⊢;exact⟨rok_iff.2 ⟨canon_nd B10_le _,canon_nd B10_le _,y1,y2⟩,oppQ_low _ hy'.2⟩
 have e2:S.s_l01Sum (x,(rp B10 (oppQ (rv B10 y)),()))=some (rp B10 (addQ (rv B10 x) (oppQ (rv B10 y))),()):=by
  unfold S.s_l01Sum;dsimp only;rw[if_pos ⟨hx,hz⟩,rv_rp B10_le]
 show Option.bind (S.s_l01Opposite (y,())) (fun y0=>Option.bind (S.s_l01Sum (x,(y0.1,()))) (fun y1=>some (y1.1,())))=_;rw[e1,Option.bind_some,e2,Option.bind_some]
theorem rs_sub {x y:Q3} {m n:Nat} (hx:low x) (bx:below m x) (hy:low y) (bY:below n y) (hm:m<=350000000) (hn:n<=350000000):S.s_l01Minus (rp B10 x,(rp B10 y,()))=some (rp B10 (addQ x (oppQ y)),()):=by
 unfold S.s_l01Minus;dsimp only;rw[if_pos ⟨lowb_rp9 (by decide) hx bx (by omega),lowb_rp9 (by decide) hy bY (by omega)⟩,rv_rp B10_le,rv_rp B10_le]
def P.s_l03Swap (k:Nat) (x:List (List RB×Nat)×Int×Int×Unit):Option (Unit×List (List RB×Nat)×Unit):=
 if decide (0<=x.2.1)then if decide (x.2.1<(List.length (hd0 x.1):Int))then if decide (0<=x.2.2.1)then if decide (x.2.2.1<(List.length (hd0 x.1):Int))then if decide (0<=x.2.1)then if decide (x.2.1<(List.length (hd0 x.1):Int))then if decide (0<=x.2.2.1)then if decide (x.2.2.1<(List.length (List.set (hd0 x.1) (0+x.2.1.toNat) ((List.getD (hd0 x.1) (0+x.2.2.1.toNat) (0,0)).1,(List.getD (hd0 x.1) (0+x.2.2.1.toNat) (0,0)).2)):Int))then if dup (List.map (fun(y0:Nat×Nat)=>y0.1) (List.set (List.set (hd0 x.1) (0+x.2.1.toNat) ((List.getD (hd0 x.1) (0+x.2.2.1.toNat) (0,0)).1,(List.getD (hd0 x.1) (0+x.2.2.1.toNat) (0,0)).2)) (0+x.2.2.1.toNat) ((List.getD (hd0 x.1) (0+x.2.1.toNat) (0,0)).1,(List.getD (hd0 x.1) (0+x.2.1.toNat) (0,0)).2)))then none else some ((),nrm (List.set (List.set (hd0 x.1) (0+x.2.1.toNat) ((List.getD (hd0 x.1) (0+x.2.2.1.toNat) (0,0)).1,(List.getD (hd0 x.1) (0+x.2.2.1.toNat) (0,0)).2)) (0+x.2.2.1.toNat) ((List.getD (hd0 x.1) (0+x.2.1.toNat) (0,0)).1,(List.getD (hd0 x.1) (0+x.2.1.toNat) (0,0)).2)) (in0 x.1),())else none else none else none else none else none else none else none else none
def S.s_l03Swap (x:((List ((List RB)×Nat))×(Int×(Int×Unit)))):(Option (Unit×((List ((List RB)×Nat))×Unit))):=P.s_l03Swap 0 x
theorem S.s_l03Swap_ok (x r) (h:S.s_l03Swap x=some r):∃k,P.s_l03Swap k x=some r:=⟨0,h⟩
abbrev s_l03Solve.A:=Option ((List RB×Bool)×List (List RB×Nat)×Unit)
abbrev s_l03Solve.B:=Int×Int×Int×List (List RB×Nat)×Unit
abbrev s_l03Solve.C:=Int×Int×List (List RB×Nat)×Unit
abbrev P.s_l03Solve_b22 (g16:s_l03Solve.B->s_l03Solve.A) (x23:Int×Int×List (List RB×Nat)×Int×RB×Int×Unit) (g24:Int×Int×List (List RB×Nat)×Int×RB×Int×Unit->s_l03Solve.A):s_l03Solve.A:=
 (fun(a b d f:Int) (c:List (List RB×Nat)) (e:RB)=>if decide (a<=b)then if decide (0<=d)then if decide (d<(List.length (hd0 c):Int))then if decide (0<=d)then if decide (d<(List.length (hd0 c):Int))then if decide (0<=a)then if decide (a<(((List.getD (hd0 c) (0+d.toNat) (0,0)).2:Nat):Int))then if decide (0<=f)then if decide (f<(List.length (hd0 c):Int))then if decide (0<=a)then if decide (a<(((List.getD (hd0 c) (0+f.toNat) (0,0)).2:Nat):Int))then(S.s_l01Times ((e.1,e.2.1,e.2.2),((List.getD (List.getD (in0 c) (List.getD (hd0 c) (0+f.toNat) (0,0)).1 []) (0+a.toNat) (false,[],[])).1,(List.getD (List.getD (in0 c) (List.getD (hd0 c) (0+f.toNat) (0,0)).1 []) (0+a.toNat) (false,[],[])).2.1,(List.getD (List.getD (in0 c) (List.getD (hd0 c) (0+f.toNat) (0,0)).1 []) (0+a.toNat) (false,[],[])).2.2),())).bind fun y25=>(S.s_l01Minus (((List.getD (List.getD (in0 c) (List.getD (hd0 c) (0+d.toNat) (0,0)).1 []) (0+a.toNat) (false,[],[])).1,(List.getD (List.getD (in0 c) (List.getD (hd0 c) (0+d.toNat) (0,0)).1 []) (0+a.toNat) (false,[],[])).2.1,(List.getD (List.getD (in0 c) (List.getD (hd0 c) (0+d.toNat) (0,0)).1 []) (0+a.toNat) (false,[],[])).2.2),(y25.1.1,y25.1.2.1,y25.1.2.2),())).bind fun y26=>if decide (0<=a)then if decide (a<(((List.getD (hd0 c) (0+d.toNat) (0,0)).2:Nat):Int))then if dup (List.map (fun(y27:Nat×Nat)=>y27.1) (hd0 c))then none else g24 (wrap .i64 (a+1),b,nrm (hd0 c) (List.set (in0 c) (List.getD (hd0 c) (0+d.toNat) (0,0)).1 (List.set (List.getD (in0 c) (List.getD (hd0 c) (0+d.toNat) (0,0)).1 []) (0+a.toNat) (y26.1.1,y26.1.2.1,y26.1.2.2))),d,(e.1,e.2.1,e.2.2),f,())else none else none else none else none else none else none else none else none else none else none else none else none else if dup (List.map (fun(y28:Nat×Nat)=>y28.1) (hd0 c))then none else g16 (wrap .i64 (d+1),b,f,nrm (hd0 c) (in0 c),())) x23.1 x23.2.1 x23.2.2.2.1 x23.2.2.2.2.2.1 x23.2.2.1 x23.2.2.2.2.1
abbrev P.s_l03Solve_b14 (k:Nat) (g3:s_l03Solve.C->s_l03Solve.A) (x15:s_l03Solve.B) (g16:s_l03Solve.B->s_l03Solve.A):s_l03Solve.A:=
 (fun(a b c:Int) (d:List (List RB×Nat))=>if decide (a<b)then if a==c then if dup (List.map (fun(y17:Nat×Nat)=>y17.1) (hd0 d))then none else g16 (wrap .i64 (a+1),b,c,nrm (hd0 d) (in0 d),())else if decide (0<=a)then if decide (a<(List.length (hd0 d):Int))then if decide (0<=c)then if decide (c<(((List.getD (hd0 d) (0+a.toNat) (0,0)).2:Nat):Int))then(S.s_l01Zero (((List.getD (List.getD (in0 d) (List.getD (hd0 d) (0+a.toNat) (0,0)).1 []) (0+c.toNat) (false,[],[])).1,(List.getD (List.getD (in0 d) (List.getD (hd0 d) (0+a.toNat) (0,0)).1 []) (0+c.toNat) (false,[],[])).2.1,(List.getD (List.getD (in0 d) (List.getD (hd0 d) (0+a.toNat) (0,0)).1 []) (0+c.toNat) (false,[],[])).2.2),())).bind fun y18=>if y18.1 then if dup (List.map (fun(y19:Nat×Nat)=>y19.1) (hd0 d))then none else g16 (wrap .i64 (a+1),b,c,nrm (hd0 d) (in0 d),())else if decide (0<=a)then if decide (a<(List.length (hd0 d):Int))then if decide (0<=c)then if decide (c<(((List.getD (hd0 d) (0+a.toNat) (0,0)).2:Nat):Int))then if decide (0<=c)then if decide (c<(List.length (hd0 d):Int))then if decide (0<=c)then if decide (c<(((List.getD (hd0 d) (0+c.toNat) (0,0)).2:Nat):Int))then(S.s_l01Over (((List.getD (List.getD (in0 d) (List.getD (hd0 d) (0+a.toNat) (0,0)).1 []) (0+c.toNat) (false,[],[])).1,(List.getD (List.getD (in0 d) (List.getD (hd0 d) (0+a.toNat) (0,0)).1 []) (0+c.toNat) (false,[],[])).2.1,(List.getD (List.getD (in0 d) (List.getD (hd0 d) (0+a.toNat) (0,0)).1 []) (0+c.toNat) (false,[],[])).2.2),((List.getD (List.getD (in0 d) (List.getD (hd0 d) (0+c.toNat) (0,0)).1 []) (0+c.toNat) (false,[],[])).1,(List.getD (List.getD (in0 d) (List.getD (hd0 d) (0+c.toNat) (0,0)).1 []) (0+c.toNat) (false,[],[])).2.1,(List.getD (List.getD (in0 d) (List.getD (hd0 d) (0+c.toNat) (0,0)).1 []) (0+c.toNat) (false,[],[])).2.2),())).bind fun y20=>if dup (List.map (fun(y21:Nat×Nat)=>y21.1) (hd0 d))then none else loopP (P.s_l03Solve_b22 g16) k (c,b,nrm (hd0 d) (in0 d),a,(y20.1.1,y20.1.2.1,y20.1.2.2),c,())else none else none else none else none else none else none else none else none else none else none else none else none else if dup (List.map (fun(y29:Nat×Nat)=>y29.1) (hd0 d))then none else g3 (wrap .i64 (c+1),b,nrm (hd0 d) (in0 d),())) x15.1 x15.2.1 x15.2.2.1 x15.2.2.2.1
abbrev P.s_l03Solve_b5 (k:Nat) (g3:s_l03Solve.C->s_l03Solve.A) (x6:Int×Int×List (List RB×Nat)×Int×Unit) (g7:Int×Int×List (List RB×Nat)×Int×Unit->s_l03Solve.A):s_l03Solve.A:=
 (fun(a b d:Int) (c:List (List RB×Nat))=>if decide (a<b)then if decide (0<=a)then if decide (a<(List.length (hd0 c):Int))then if decide (0<=d)then if decide (d<(((List.getD (hd0 c) (0+a.toNat) (0,0)).2:Nat):Int))then(S.s_l01Zero (((List.getD (List.getD (in0 c) (List.getD (hd0 c) (0+a.toNat) (0,0)).1 []) (0+d.toNat) (false,[],[])).1,(List.getD (List.getD (in0 c) (List.getD (hd0 c) (0+a.toNat) (0,0)).1 []) (0+d.toNat) (false,[],[])).2.1,(List.getD (List.getD (in0 c) (List.getD (hd0 c) (0+a.toNat) (0,0)).1 []) (0+d.toNat) (false,[],[])).2.2),())).bind fun y8=>if y8.1 then if dup (List.map (fun(y9:Nat×Nat)=>y9.1) (hd0 c))then none else g7 (wrap .i64 (a+1),b,nrm (hd0 c) (in0 c),d,())else if a==b then if dup (List.map (fun(y10:Nat×Nat)=>y10.1) (hd0 c))then none else some (([],false),nrm (hd0 c) (in0 c),())else if dup (List.map (fun(y11:Nat×Nat)=>y11.1) (hd0 c))then none else(S.s_l03Swap (nrm (hd0 c) (in0 c),d,a,())).bind fun y12=>if dup (List.map (fun(y13:Nat×Nat)=>y13.1) (hd0 y12.2.1))then none else loopP (P.s_l03Solve_b14 k g3) k (0,b,d,nrm (hd0 y12.2.1) (in0 y12.2.1),())else none else none else none else none else if a==b then if dup (List.map (fun(y30:Nat×Nat)=>y30.1) (hd0 c))then none else some (([],false),nrm (hd0 c) (in0 c),())else if dup (List.map (fun(y31:Nat×Nat)=>y31.1) (hd0 c))then none else(S.s_l03Swap (nrm (hd0 c) (in0 c),d,a,())).bind fun y32=>if dup (List.map (fun(y33:Nat×Nat)=>y33.1) (hd0 y32.2.1))then none else loopP (P.s_l03Solve_b14 k g3) k (0,b,d,nrm (hd0 y32.2.1) (in0 y32.2.1),())) x6.1 x6.2.1 x6.2.2.2.1 x6.2.2.1
abbrev P.s_l03Solve_b51 (x52:Int×Int×List RB×List (List RB×Nat)×Unit) (g53:Int×Int×List RB×List (List RB×Nat)×Unit->s_l03Solve.A):s_l03Solve.A:=
 (fun(a b:Int) (c:List RB) (d:List (List RB×Nat))=>if decide (a<b)then if decide (0<=a)then if decide (a<(List.length (hd0 d):Int))then if decide (0<=b)then if decide (b<(((List.getD (hd0 d) (0+a.toNat) (0,0)).2:Nat):Int))then if decide (0<=a)then if decide (a<(List.length (hd0 d):Int))then if decide (0<=a)then if decide (a<(((List.getD (hd0 d) (0+a.toNat) (0,0)).2:Nat):Int))then(S.s_l01Over (((List.getD (List.getD (in0 d) (List.getD (hd0 d) (0+a.toNat) (0,0)).1 []) (0+b.toNat) (false,[],[])).1,(List.getD (List.getD (in0 d) (List.getD (hd0 d) (0+a.toNat) (0,0)).1 []) (0+b.toNat) (false,[],[])).2.1,(List.getD (List.getD (in0 d) (List.getD (hd0 d) (0+a.toNat) (0,0)).1 []) (0+b.toNat) (false,[],[])).2.2),((List.getD (List.getD (in0 d) (List.getD (hd0 d) (0+a.toNat) (0,0)).1 []) (0+a.toNat) (false,[],[])).1,(List.getD (List.getD (in0 d) (List.getD (hd0 d) (0+a.toNat) (0,0)).1 []) (0+a.toNat) (false,[],[])).2.1,(List.getD (List.getD (in0 d) (List.getD (hd0 d) (0+a.toNat) (0,0)).1 []) (0+a.toNat) (false,[],[])).2.2),())).bind fun y54=>if decide (((c.length+(List.length [(y54.1.1,y54.1.2.1,y54.1.2.2)]))*56)<=140737488355328)then if dup (List.map (fun(y55:Nat×Nat)=>y55.1) (hd0 d))then none else g53 (wrap .i64 (a+1),b,c++[(y54.1.1,y54.1.2.1,y54.1.2.2)],nrm (hd0 d) (in0 d),())else none else none else none else none else none else none else none else none else none else if dup (List.map (fun(y56:Nat×Nat)=>y56.1) (hd0 d))then none else some ((c,true),nrm (hd0 d) (in0 d),())) x52.1 x52.2.1 x52.2.2.1 x52.2.2.2.1
abbrev P.s_l03Solve_b1 (k:Nat) (x2:s_l03Solve.C) (g3:s_l03Solve.C->s_l03Solve.A):s_l03Solve.A:=
 if decide (x2.1<x2.2.1)then if dup (List.map (fun(y4:Nat×Nat)=>y4.1) (hd0 x2.2.2.1))then none else loopP (P.s_l03Solve_b5 k g3) k (x2.1,x2.2.1,nrm (hd0 x2.2.2.1) (in0 x2.2.2.1),x2.1,())else if dup (List.map (fun(y50:Nat×Nat)=>y50.1) (hd0 x2.2.2.1))then none else loopP P.s_l03Solve_b51 k (0,x2.2.1,[],nrm (hd0 x2.2.2.1) (in0 x2.2.2.1),())
def P.s_l03Solve (k:Nat) (x:List (List RB×Nat)×Unit):s_l03Solve.A:=
 if dup (List.map (fun(y0:Nat×Nat)=>y0.1) (hd0 x.1))then none else loopP (P.s_l03Solve_b1 k) k (0,(List.length (hd0 x.1):Int),nrm (hd0 x.1) (in0 x.1),())
theorem sv_mul {a b:Q3} (ha:okq a) (hb:okq b):S.s_l01Times (((rp B10 a).1,(rp B10 a).2.1,(rp B10 a).2.2),((rp B10 b).1,(rp B10 b).2.1,(rp B10 b).2.2),())=some (rp B10 (mulQ a b),()):=rs_mul ha.1 ha.2 hb.1 hb.2 (Nat.le_refl _) (Nat.le_refl _)
theorem sv_sub {a b:Q3} (ha:okq a) (hb:okq b):S.s_l01Minus (((rp B10 a).1,(rp B10 a).2.1,(rp B10 a).2.2),((rp B10 b).1,(rp B10 b).2.1,(rp B10 b).2.2),())=some (rp B10 (addQ a (oppQ b)),()):=rs_sub ha.1 ha.2 hb.1 hb.2 (Nat.le_refl _) (Nat.le_refl _)
theorem sv_over {a b:Q3} (ha:okq a) (hb:okq b) (h0:b.2.1≠0):S.s_l01Over (((rp B10 a).1,(rp B10 a).2.1,(rp B10 a).2.2),((rp B10 b).1,(rp B10 b).2.1,(rp B10 b).2.2),())=some (rp B10 (overQ a b),()):=rs_over ha.1 ha.2 hb.1 hb.2 h0 (Nat.le_refl _) (Nat.le_refl _)
theorem sv_zero (q:Q3):S.s_l01Zero (((rp B10 q).1,(rp B10 q).2.1,(rp B10 q).2.2),())=some (decide (q.2.1=0),()):=by
 unfold S.s_l01Zero P.s_l01Zero rp;dsimp only;congr 2;rw[Bool.eq_iff_iff,beq_iff_eq,decide_eq_true_iff,<-nd_zero_iff (B:=B10) (by decide),<-List.length_eq_zero_iff];omega
def svM (b:Nat->Nat->Q3) (k r j:Nat):Nat->Nat->Q3:=fun x y=>if x<r\/(x=r/\y<j)then elF true b k x y else b x y
theorem svM_row (b:Nat->Nat->Q3) (k r:Nat) (h:r=k\/(b r k).2.1=0):svM b k r 0=svM b k (r+1) 0:=by
 funext x y;unfold svM
 by_cases w:x<r
 ·rw[if_pos (Or.inl w),if_pos (Or.inl (by omega))]
 ·by_cases w2:x=r
  ·subst w2;rw[if_neg (by omega),if_pos (Or.inl (by omega))];unfold elF;rw[if_neg (fun q=>by
    rcases h with h|h
    ·rcases q.1 with q|q
     ·omega
     ·exact q.2 h
    ·exact q.2.1 h)]
  ·rw[if_neg (by omega),if_neg (by omega)]
theorem svM_wide (b:Nat->Nat->Q3) {n k r:Nat} :om B10 n (n+1) (svM b k r (n+1))=om B10 n (n+1) (svM b k (r+1) 0):=om_congr fun x hx y hy=>by
 unfold svM
 by_cases w:x<r\/(x=r/\y<n+1)
 ·rw[if_pos w,if_pos (by omega)]
 ·rw[if_neg w,if_neg (by omega)]
theorem sv_inner {b:Nat->Nat->Q3} {n k:Nat} (h:elOk b n k) {r:Nat} (hr:r<n) (hrk:r≠k) (hf:(b r k).2.1≠0) (g) {K:Nat} (hK:13<K):
  loopP (P.s_l03Solve_b22 g) K ((k:Int),(n:Int),om B10 n (n+1) (svM b k r 0),(r:Int),rp B10 (overQ (b r k) (b k k)),(k:Int),())=g (((r+1:Nat):Int),(n:Int),(k:Int),om B10 n (n+1) (svM b k (r+1) 0),()):=by
 obtain⟨kn,n12,hnum,hp,hF,hM⟩:=h;have hstart:svM b k r 0=svM b k r k:=by
  funext x y;unfold svM
  by_cases w:x<r
  ·rw[if_pos (Or.inl w),if_pos (Or.inl w)]
  ·rw[if_neg (by omega)]
   by_cases w2:x=r/\y<k
   ·rw[if_pos (Or.inr w2)];unfold elF;rw[if_neg (fun q=>by omega)]
   ·rw[if_neg (fun q=>q.elim w w2)]
 rw[hstart]
 have key:=loop_from (k:=K) (b:=P.s_l03Solve_b22 g) (s:=k) (n:=n+1) (st:=fun j=>((j:Int),(n:Int),om B10 n (n+1) (svM b k r j),(r:Int),rp B10 (overQ (b r k) (b k k)),(k:Int),())) (F:=fun _=>g (((r+1:Nat):Int),(n:Int),(k:Int),om B10 n (n+1) (svM b k (r+1) 0),())) (by omega) (fun j g' hkj hj hg=>by
  unfold P.s_l03Solve_b22;dsimp only at hg ⊢;have e1:(j:Int)<=(n:Int):=by omega
  have e2:(0:Int)<=(j:Int):=by omega
  have e3:(0:Int)<=(r:Int):=by omega
  have e4:(r:Int)<(n:Int):=by omega
  have e5:(0:Int)<=(k:Int):=by omega
  have e6:(k:Int)<(n:Int):=by omega
  have e7:(j:Int)<((n+1:Nat):Int):=by omega
  have v2:svM b k r j k j=b k j:=by
   unfold svM
   by_cases w:k<r\/(k=r/\j<j)
   ·rw[if_pos w];unfold elF;rw[if_neg (fun q=>by
     rcases q.1 with q|q
     ·omega
     ·exact q.2 rfl)]
   ·rw[if_neg w]
  have v3:svM b k r j r j=b r j:=by
   unfold svM;rw[if_neg (by omega)]
  have v5:updM (svM b k r j) r j (addQ (b r j) (oppQ (mulQ (overQ (b r k) (b k k)) (b k j))))=svM b k r (j+1):=by
   funext x y;unfold updM
   by_cases q:x=r/\y=j
   ·rw[if_pos q,q.1,q.2];unfold svM;rw[if_pos (Or.inr ⟨rfl,by omega⟩)];unfold elF;rw[if_pos ⟨Or.inr ⟨rfl,hrk⟩,hf,hkj⟩];rfl
   ·rw[if_neg q];unfold svM
    by_cases w:x<r\/(x=r/\y<j)
    ·rw[if_pos w,if_pos (by omega)]
    ·rw[if_neg w,if_neg (by omega)]
  simp only[hd0_length,om_len,Int.toNat_natCast,Nat.zero_add,om_hd hr,om_hd kn,om_in hr,om_in kn,om_num (show j<n+1 by omega),hd0_dup,e1,e2,e3,e4,e5,e6,e7,decide_true,if_true,Bool.false_eq_true,if_false,v2,v3];rw[sv_mul (hF r hr) (hnum k kn j (by omega)),Option.bind_some];dsimp only;rw[sv_sub (hnum r hr j (by omega)) (hM r hr j (by omega)),Option.bind_some];dsimp only;rw[wr (by omega) (by omega)];show g' (_,_,nrm (hd0 _) ((in0 _).set r (((tab (n+1) (svM b k r j r)).map (rp B10)).set j (rp B10 _))),_)=_;rw[om_write hr,v5];exact hg) (fun g'=>by
  unfold P.s_l03Solve_b22;dsimp only;rw[if_neg (by simp;omega),hd0_dup,nrm_hd0,wr (by omega) (by omega),if_neg (by decide),svM_wide];rfl) (by omega)
 exact key
theorem sv_rows {b:Nat->Nat->Q3} {n k:Nat} (h:elOk b n k) (g) {K:Nat} (hK:13<K):
  loopP (P.s_l03Solve_b14 K g) K ((0:Int),(n:Int),(k:Int),om B10 n (n+1) b,())=g (((k+1:Nat):Int),(n:Int),om B10 n (n+1) (elF true b k),()):=by
 have h':=h;obtain⟨kn,n12,hnum,hp,hF,hM⟩:=h;have hstart:svM b k 0 0=b:=by
  funext x y;unfold svM;rw[if_neg (by omega)]
 have key:=loop_up0 (k:=K) (b:=P.s_l03Solve_b14 K g) (n:=n) (st:=fun r=>((r:Int),(n:Int),(k:Int),om B10 n (n+1) (svM b k r 0),())) (F:=fun _=>g (((k+1:Nat):Int),(n:Int),om B10 n (n+1) (elF true b k),())) (fun r g' hr hg=>by
  unfold P.s_l03Solve_b14;dsimp only at hg ⊢;have e1:(r:Int)<(n:Int):=by omega
  have e3:(0:Int)<=(r:Int):=by omega
  have e5:(0:Int)<=(k:Int):=by omega
  have e6:(k:Int)<(n:Int):=by omega
  have e7:(k:Int)<((n+1:Nat):Int):=by omega
  rw[if_pos (decide_eq_true e1)]
  by_cases hrk:r=k
  ·rw[if_pos (by rw[beq_iff_eq];omega),hd0_dup,nrm_hd0,if_neg (by decide),wr (by omega) (by omega),<-hg,<-svM_row b k r (Or.inl hrk)];rfl
  rw[if_neg (by rw[beq_iff_eq];omega)];have v1:svM b k r 0 r k=b r k:=by
   unfold svM;rw[if_neg (by omega)]
  have v2:svM b k r 0 k k=b k k:=by
   unfold svM
   by_cases w:k<r\/(k=r/\k<0)
   ·rw[if_pos w];unfold elF;rw[if_neg (fun q=>by
     rcases q.1 with q|q
     ·omega
     ·exact q.2 rfl)]
   ·rw[if_neg w]
  simp only[hd0_length,om_len,Int.toNat_natCast,Nat.zero_add,om_hd hr,om_hd kn,om_in hr,om_in kn,om_num (show k<n+1 by omega),hd0_dup,nrm_hd0,e1,e3,e5,e6,e7,decide_true,if_true,Bool.false_eq_true,if_false,v1,v2];rw[sv_zero,Option.bind_some]
  by_cases hz:(b r k).2.1=0
  ·rw[if_pos (decide_eq_true hz),wr (by omega) (by omega),<-hg,<-svM_row b k r (Or.inr hz)];rfl
  ·rw[if_neg (by simpa using hz),sv_over (hnum r hr k (by omega)) (hnum k kn k (by omega)) hp,Option.bind_some];dsimp only;rw[<-hg];exact sv_inner h' hr hrk hz g' hK) (fun g'=>by
  unfold P.s_l03Solve_b14;dsimp only;rw[if_neg (by simp),hd0_dup,nrm_hd0,if_neg (by decide),wr (by omega) (by omega)];have:om B10 n (n+1) (svM b k n 0)=om B10 n (n+1) (elF true b k):=om_congr fun x hx y hy=>by
   unfold svM;rw[if_pos (Or.inl hx)]
  rw[this];rfl) (by omega)
 rw[hstart]at key;exact key
theorem sv_swap {a:Nat->Nat->Q3} {r c i k:Nat} (hi:i<r) (hk:k<r):S.s_l03Swap (om B10 r c a,(i:Int),(k:Int),())=some ((),om B10 r c (swQ a i k),()):=by
 unfold S.s_l03Swap P.s_l03Swap;dsimp only;have e1:(0:Int)<=(i:Int):=by omega
 have e2:(i:Int)<(r:Int):=by omega
 have e3:(0:Int)<=(k:Int):=by omega
 have e4:(k:Int)<(r:Int):=by omega
 have hs:=om_swap (B:=B10) (c:=c) (a:=a) hi hk;have hp:∀p:Nat×Nat,(p.1,p.2)=p:=fun p=>rfl
 simp only[hp,hd0_length,om_len,List.length_set,Int.toNat_natCast,Nat.zero_add,hs,sw_dup,sw_nrm hi hk,e1,e2,e3,e4,decide_true,if_true,Bool.false_eq_true,if_false]
theorem sv_search {a:Nat->Nat->Q3} {n k:Nat} (hk:k<n) (n12:n<=12) (g) {K:Nat} :∀(m i F:Nat),i+m=n->m<F->pvF (fun i=>decide ((a i k).2.1≠0)) m i<n->
  loopP (P.s_l03Solve_b5 K g) F ((i:Int),(n:Int),om B10 n (n+1) a,(k:Int),())=loopP (P.s_l03Solve_b14 K g) K ((0:Int),(n:Int),(k:Int),om B10 n (n+1) (swQ a k (pvF (fun i=>decide ((a i k).2.1≠0)) m i)),()):=by
 intro m
 induction m with
 |zero=>
  intro i F hi hF hp;unfold pvF at hp;omega
 |succ m ih=>
  intro i F hi hF hp;obtain⟨F,rfl⟩:∃j,F=j+1:=⟨F - 1,by omega⟩
  rw[loopP_succ];have ih':=ih (i+1) F (by omega) (by omega);generalize loopP (P.s_l03Solve_b5 K g) F=g' at ih' ⊢;unfold P.s_l03Solve_b5;dsimp only;have hin:i<n:=by omega
  have e1:(i:Int)<(n:Int):=by omega
  have e2:(0:Int)<=(i:Int):=by omega
  have e3:(0:Int)<=(k:Int):=by omega
  have e4:(k:Int)<((n+1:Nat):Int):=by omega
  simp only[hd0_length,om_len,Int.toNat_natCast,Nat.zero_add,om_hd hin,om_in hin,om_num (show k<n+1 by omega),hd0_dup,nrm_hd0,e1,e2,e3,e4,decide_true,if_true,Bool.false_eq_true,if_false];rw[sv_zero,Option.bind_some];unfold pvF at hp ⊢
  by_cases hz:(a i k).2.1=0
  ·have hd:¬(decide ((a i k).2.1≠0)=true):=by simp [hz]
   rw[if_neg hd]at hp ⊢;rw[if_pos (decide_eq_true hz),wr (by omega) (by omega)];exact ih' hp
  ·have hd:decide ((a i k).2.1≠0)=true:=decide_eq_true hz;rw[if_pos hd]at hp ⊢;rw[if_neg (by simpa using hz),if_neg (by rw[beq_iff_eq];omega),sv_swap hk hin,Option.bind_some]
open Classical in
def S.s_l03Solve (x:((List ((List RB)×Nat))×Unit)):(Option (((List RB)×Bool)×((List ((List RB)×Nat))×Unit))):=
 if h:∃(a:Nat->Nat->Q3) (n:Nat),x.1=om B10 n (n+1) a/\elsOk true a n then some (((tab h.choose_spec.choose (solS h.choose h.choose_spec.choose)).map (rp B10),true),om B10 h.choose_spec.choose (h.choose_spec.choose+1) (elim true h.choose_spec.choose h.choose h.choose_spec.choose),())else none
theorem S.s_l03Solve_ok (x r) (h:S.s_l03Solve x=some r):∃k,P.s_l03Solve k x=some r:=by
 obtain⟨m,u⟩:=x;unfold S.s_l03Solve at h;dsimp only at h;split at h
 case isFalse=>cases h
 rename_i hc;have hs:=hc.choose_spec.choose_spec;cases h;generalize hc.choose_spec.choose=n at*;generalize hc.choose=a at*;obtain⟨rfl,hr⟩:=hs;obtain⟨n12,hnum,hpiv,hel,hdia⟩:=hr;refine⟨14,?_⟩;unfold P.s_l03Solve;dsimp only;rw[hd0_dup,nrm_hd0,hd0_length,om_len,if_neg (by decide)];have key:=loop_up0 (k:=14) (b:=P.s_l03Solve_b1 14) (n:=n) (st:=fun k=>((k:Int),(n:Int),om B10 n (n+1) (elim true n a k),())) (F:=fun _=>some (((tab n (solS a n)).map (rp B10),true),om B10 n (n+1) (elim true n a n),())) (fun k g hk hg=>by
  unfold P.s_l03Solve_b1;dsimp only at hg ⊢;rw[if_pos (decide_eq_true (by omega)),hd0_dup,nrm_hd0,if_neg (by decide)];have hp:=(hpiv k hk).2.1;have he:=hel k hk;have hs:=sv_search (a:=elim true n a k) hk n12 g (K:=14) (n - k) k 14 (by omega) (by omega) hp;rw[elim]at hg;rw[<-hg];exact hs.trans (sv_rows he g (by decide))) (fun g=>by
  unfold P.s_l03Solve_b1;dsimp only;rw[if_neg (by simp),hd0_dup,nrm_hd0,if_neg (by decide)];have key2:=loop_up0 (k:=14) (b:=P.s_l03Solve_b51) (n:=n) (st:=fun i=>((i:Int),(n:Int),(tab i (solS a n)).map (rp B10),om B10 n (n+1) (elim true n a n),())) (F:=fun _=>some (((tab n (solS a n)).map (rp B10),true),om B10 n (n+1) (elim true n a n),())) (fun i g' hi hg=>by
   unfold P.s_l03Solve_b51;dsimp only at hg ⊢;have e1:(i:Int)<(n:Int):=by omega
   have e2:(0:Int)<=(i:Int):=by omega
   have e3:(0:Int)<=(n:Int):=by omega
   have e4:(n:Int)<((n+1:Nat):Int):=by omega
   have e5:(i:Int)<((n+1:Nat):Int):=by omega
   have e6:(i+1)*56<=140737488355328:=by omega
   simp only[hd0_length,om_len,Int.toNat_natCast,Nat.zero_add,om_hd hi,om_in hi,om_num (show n<n+1 by omega),om_num (show i<n+1 by omega),hd0_dup,nrm_hd0,e1,e2,e3,e4,e5,decide_true,if_true,Bool.false_eq_true,if_false];rw[sv_over (hnum n (Nat.le_refl _) i hi n (Nat.le_refl _)) (hnum n (Nat.le_refl _) i hi i (by omega)) (hdia i hi),Option.bind_some];dsimp only;simp only[List.length_map,tab_len,List.length_cons,List.length_nil,Nat.zero_add,e6,decide_true,if_true];rw[wr (by omega) (by omega)];rw[<-tabm_snoc]at hg;exact hg) (fun g'=>by
   unfold P.s_l03Solve_b51;dsimp only;rw[if_neg (by simp),hd0_dup,nrm_hd0,if_neg (by decide)]) (by omega)
  exact key2) (by omega)
 exact key
theorem solve_s {a:Nat->Nat->Q3} {n:Nat} (h:elsOk true a n):S.s_l03Solve (om B10 n (n+1) a,())=some (((tab n (solS a n)).map (rp B10),true),om B10 n (n+1) (elim true n a n),()):=by
 unfold S.s_l03Solve;have hc:∃(b:Nat->Nat->Q3) (m:Nat),(om B10 n (n+1) a,()).1=om B10 m (m+1) b/\elsOk true b m:=⟨a,n,rfl,h⟩
 rw[dif_pos hc];obtain⟨e,hb⟩:=hc.choose_spec.choose_spec;dsimp only at e;generalize hc.choose_spec.choose=m at*;generalize hc.choose=b at*;obtain⟨e1,e2⟩:=om_inj B10_le e;subst e1;have hab:∀i,i<n->∀j,j<=n->a i j=b i j:=fun i hi j hj=>(e2 i hi).2 j (by omega)
 have hg:=elim_congr (full:=true) hab (fun k hk=>(h.piv k hk).2.1) n (Nat.le_refl _);have hw:tab n (solS b n)=tab n (solS a n):=tab_congr fun i hi=>by
  unfold solS;rw[hg i hi n (Nat.le_refl _),hg i hi i (by omega)]
 rw[hw,om_congr fun i hi j hj=>hg i hi j (by omega)]
abbrev s_l03Rest.A:=Int×Int×List (List RB)×Int×List RB×List (List RB×Nat)×Unit
abbrev s_l03Rest.B:=Int×Int×List (List RB)×List (List RB×Nat)×Unit
abbrev s_l03Rest.C:=Option ((List RB×Bool)×Unit)
abbrev P.s_l03Rest_b5 (g3:s_l03Rest.B->s_l03Rest.C) (x6:s_l03Rest.A) (g7:s_l03Rest.A->s_l03Rest.C):s_l03Rest.C:=
 (fun(a b d:Int) (c:List (List RB)) (e:List RB) (f:List (List RB×Nat))=>if decide (a<b)then if decide (0<=a)then if decide (a<(c.length:Int))then if decide (0<=d)then if decide (d<(List.length (c.getD a.toNat []):Int))then if a==d then(S.s_l01One ()).bind fun y8=>(S.s_l01Minus (((List.getD (c.getD a.toNat []) d.toNat (false,[],[])).1,(List.getD (c.getD a.toNat []) d.toNat (false,[],[])).2.1,(List.getD (c.getD a.toNat []) d.toNat (false,[],[])).2.2),(y8.1.1,y8.1.2.1,y8.1.2.2),())).bind fun y9=>if d==(wrap .i64 (b - 1))then(S.s_l01One ()).bind fun y10=>if decide (((e.length+(List.length [(y10.1.1,y10.1.2.1,y10.1.2.2)]))*56)<=140737488355328)then if dup (List.map (fun(y11:Nat×Nat)=>y11.1) (hd0 f))then none else g7 (wrap .i64 (a+1),b,c,d,e++[(y10.1.1,y10.1.2.1,y10.1.2.2)],nrm (hd0 f) (in0 f),())else none else if decide (((e.length+(List.length [(y9.1.1,y9.1.2.1,y9.1.2.2)]))*56)<=140737488355328)then if dup (List.map (fun(y12:Nat×Nat)=>y12.1) (hd0 f))then none else g7 (wrap .i64 (a+1),b,c,d,e++[(y9.1.1,y9.1.2.1,y9.1.2.2)],nrm (hd0 f) (in0 f),())else none else if d==(wrap .i64 (b - 1))then(S.s_l01One ()).bind fun y13=>if decide (((e.length+(List.length [(y13.1.1,y13.1.2.1,y13.1.2.2)]))*56)<=140737488355328)then if dup (List.map (fun(y14:Nat×Nat)=>y14.1) (hd0 f))then none else g7 (wrap .i64 (a+1),b,c,d,e++[(y13.1.1,y13.1.2.1,y13.1.2.2)],nrm (hd0 f) (in0 f),())else none else if decide (((e.length+(List.length [((List.getD (c.getD a.toNat []) d.toNat (false,[],[])).1,(List.getD (c.getD a.toNat []) d.toNat (false,[],[])).2.1,(List.getD (c.getD a.toNat []) d.toNat (false,[],[])).2.2)]))*56)<=140737488355328)then if dup (List.map (fun(y15:Nat×Nat)=>y15.1) (hd0 f))then none else g7 (wrap .i64 (a+1),b,c,d,e++[((List.getD (c.getD a.toNat []) d.toNat (false,[],[])).1,(List.getD (c.getD a.toNat []) d.toNat (false,[],[])).2.1,(List.getD (c.getD a.toNat []) d.toNat (false,[],[])).2.2)],nrm (hd0 f) (in0 f),())else none else none else none else none else none else(S.s_l01None ()).bind fun y16=>if d==(wrap .i64 (b - 1))then(S.s_l01One ()).bind fun y17=>if decide (((e.length+(List.length [(y17.1.1,y17.1.2.1,y17.1.2.2)]))*56)<=140737488355328)then if decide ((((List.length (hd0 f))+(List.length (hd0 [(e++[(y17.1.1,y17.1.2.1,y17.1.2.2)],List.length (e++[(y17.1.1,y17.1.2.1,y17.1.2.2)]))])))*24)<=140737488355328)then if dup (List.map (fun(y18:Nat×Nat)=>y18.1) (joinH (List.length (in0 f)) (hd0 f) (hd0 [(e++[(y17.1.1,y17.1.2.1,y17.1.2.2)],List.length (e++[(y17.1.1,y17.1.2.1,y17.1.2.2)]))])))then none else g3 (wrap .i64 (d+1),b,c,nrm (joinH (List.length (in0 f)) (hd0 f) (hd0 [(e++[(y17.1.1,y17.1.2.1,y17.1.2.2)],List.length (e++[(y17.1.1,y17.1.2.1,y17.1.2.2)]))])) ((in0 f)++[e++[(y17.1.1,y17.1.2.1,y17.1.2.2)]]),())else none else none else if decide (((e.length+(List.length [(y16.1.1,y16.1.2.1,y16.1.2.2)]))*56)<=140737488355328)then if decide ((((List.length (hd0 f))+(List.length (hd0 [(e++[(y16.1.1,y16.1.2.1,y16.1.2.2)],List.length (e++[(y16.1.1,y16.1.2.1,y16.1.2.2)]))])))*24)<=140737488355328)then if dup (List.map (fun(y19:Nat×Nat)=>y19.1) (joinH (List.length (in0 f)) (hd0 f) (hd0 [(e++[(y16.1.1,y16.1.2.1,y16.1.2.2)],List.length (e++[(y16.1.1,y16.1.2.1,y16.1.2.2)]))])))then none else g3 (wrap .i64 (d+1),b,c,nrm (joinH (List.length (in0 f)) (hd0 f) (hd0 [(e++[(y16.1.1,y16.1.2.1,y16.1.2.2)],List.length (e++[(y16.1.1,y16.1.2.1,y16.1.2.2)]))])) ((in0 f)++[e++[(y16.1.1,y16.1.2.1,y16.1.2.2)]]),())else none else none) x6.1 x6.2.1 x6.2.2.2.1 x6.2.2.1 x6.2.2.2.2.1 x6.2.2.2.2.2.1
abbrev P.s_l03Rest_b1 (k:Nat) (x2:s_l03Rest.B) (g3:s_l03Rest.B->s_l03Rest.C):s_l03Rest.C:=
 if decide (x2.1<x2.2.1)then if dup (List.map (fun(y4:Nat×Nat)=>y4.1) (hd0 x2.2.2.2.1))then none else loopP (P.s_l03Rest_b5 g3) k (0,x2.2.1,x2.2.2.1,x2.1,[],nrm (hd0 x2.2.2.2.1) (in0 x2.2.2.2.1),())else if dup (List.map (fun(y20:Nat×Nat)=>y20.1) (hd0 x2.2.2.2.1))then none else(S.s_l03Solve (nrm (hd0 x2.2.2.2.1) (in0 x2.2.2.2.1),())).bind fun y21=>some ((y21.1.1,y21.1.2),())
def P.s_l03Rest (k:Nat) (x:List (List RB)×Unit):s_l03Rest.C:=
 (S.s_l03Classes (x.1,())).bind fun y0=>if(y0.1.2.length:Int) != 1 then some (([],false),())else loopP (P.s_l03Rest_b1 k) k (0,(x.1.length:Int),x.1,nrm (hd0 ([]:List (List RB×Nat))) (in0 ([]:List (List RB×Nat))),())
theorem rsr_one:S.s_l01One ()=some (rp B10 oneQ,()):=by rfl
theorem rsr_none:S.s_l01None ()=some (rp B10 zeroQ,()):=by rfl
theorem rsr_row {M:List (List Q3)} (h:isCh M) {j:Nat} (hj:j<M.length) (g) {K:Nat} (hK:12<K):
  loopP (P.s_l03Rest_b5 g) K ((0:Int),(M.length:Int),mp B10 M,(j:Int),([]:List (Bool×(List Int×List Int))),om B10 j (M.length+1) (restA M),())=g (((j+1:Nat):Int),(M.length:Int),mp B10 M,om B10 (j+1) (M.length+1) (restA M),()):=by
 have hn:=h.2.1.1;have key:=loop_up0 (k:=K) (b:=P.s_l03Rest_b5 g) (n:=M.length) (st:=fun i=>((i:Int),(M.length:Int),mp B10 M,(j:Int),(tab i (restA M j)).map (rp B10),om B10 j (M.length+1) (restA M),())) (F:=fun _=>g (((j+1:Nat):Int),(M.length:Int),mp B10 M,om B10 (j+1) (M.length+1) (restA M),())) (fun i g' hi hg=>by
  unfold P.s_l03Rest_b5;dsimp only at hg ⊢;have e1:(i:Int)<(M.length:Int):=by omega
  have e2:(0:Int)<=(i:Int):=by omega
  have e3:(0:Int)<=(j:Int):=by omega
  have e4:(j:Int)<(M.length:Int):=by omega
  have e7:(i+1)*56<=140737488355328:=by omega
  have e8:((mp B10 M).getD i []).getD j (false,(([]:List Int),([]:List Int)))=rp B10 (mq M i j):=mq_held h.2.1 hi hj;have ha:=ch_at h hi hj;have hv:restA M j i=if j+1=M.length then oneQ else if i=j then addQ (mq M i j) (oppQ oneQ)else mq M i j:=by
   unfold restA;rw[if_neg (by omega)]
  have hmin:S.s_l01Minus (((rp B10 (mq M i j)).1,(rp B10 (mq M i j)).2.1,(rp B10 (mq M i j)).2.2),((rp B10 oneQ).1,(rp B10 oneQ).2.1,(rp B10 oneQ).2.2),())=some (rp B10 (addQ (mq M i j) (oppQ oneQ)),()):=rs_sub ha.1 ha.2.1 oneQ_low (oneQ_below (n:=1) (by decide)) (by decide) (by decide);rw[<-tabm_snoc,hv]at hg;simp only[Int.toNat_natCast,mp_len,mq_wide h.2.1 hi,List.length_map,tab_len,List.length_cons,List.length_nil,Nat.zero_add,hd0_dup,nrm_hd0,e1,e2,e3,e4,e7,e8,decide_true,if_true,Bool.false_eq_true,if_false];rw[wr (x:=(i:Int)+1) (by omega) (by omega),wr (x:=(M.length:Int) - 1) (by omega) (by omega),rsr_one,Option.bind_some,Option.bind_some,hmin,Option.bind_some];dsimp only
  by_cases hij:i=j
  ·rw[if_pos (by rw[beq_iff_eq];omega)]
   by_cases hjn:j+1=M.length
   ·rw[if_pos hjn]at hg;rw[if_pos (by rw[beq_iff_eq];omega)];exact hg
   ·rw[if_neg hjn,if_pos hij]at hg;rw[if_neg (by rw[beq_iff_eq];omega)];exact hg
  ·rw[if_neg (by rw[beq_iff_eq];omega)]
   by_cases hjn:j+1=M.length
   ·rw[if_pos hjn]at hg;rw[if_pos (by rw[beq_iff_eq];omega)];exact hg
   ·rw[if_neg hjn,if_neg hij]at hg;rw[if_neg (by rw[beq_iff_eq];omega)];exact hg) (fun g'=>by
  unfold P.s_l03Rest_b5;dsimp only;have e1:(M.length+1)*56<=140737488355328:=by omega
  have e3:(j+1)*24<=140737488355328:=by omega
  have e2:= @om_app B10 j (M.length+1) (restA M);have hv:restA M j M.length=if j+1=M.length then oneQ else zeroQ:=by
   unfold restA;rw[if_pos rfl]
  rw[<-tabm_snoc,hv]at e2;rw[if_neg (by simp),rsr_none,Option.bind_some,wr (x:=(j:Int)+1) (by omega) (by omega),wr (x:=(M.length:Int) - 1) (by omega) (by omega),rsr_one,Option.bind_some];dsimp only;have hlen:∀q:Bool×(List Int×List Int),((tab M.length (restA M j)).map (rp B10)++[q]).length=M.length+1:=fun q=>by simp [tab_len]
  by_cases hjn:j+1=M.length
  ·rw[if_pos hjn]at e2;rw[if_pos (by rw[beq_iff_eq];omega)];have e4:((rp B10 oneQ).1,(rp B10 oneQ).2.1,(rp B10 oneQ).2.2)=rp B10 oneQ:=rfl;simp only[e4,hlen,hd0_length,om_len,List.length_map,tab_len,List.length_cons,List.length_nil,Nat.zero_add,e1,e3,e2.1,e2.2,decide_true,if_true,Bool.false_eq_true,if_false];rfl
  ·rw[if_neg hjn]at e2;rw[if_neg (by rw[beq_iff_eq];omega)];have e4:((rp B10 zeroQ).1,(rp B10 zeroQ).2.1,(rp B10 zeroQ).2.2)=rp B10 zeroQ:=rfl;simp only[e4,hlen,hd0_length,om_len,List.length_map,tab_len,List.length_cons,List.length_nil,Nat.zero_add,e1,e3,e2.1,e2.2,decide_true,if_true,Bool.false_eq_true,if_false];rfl) (by omega)
 exact key
open Classical in
def S.s_l03Rest (x:((List (List RB))×Unit)):(Option (((List RB)×Bool)×Unit)):=if ∃M,isCh M/\x.1=mp B10 M then some (((restT (mv B10 x.1)).1.map (rp B10),(restT (mv B10 x.1)).2),())else none
theorem S.s_l03Rest_ok (x r) (h:S.s_l03Rest x=some r):∃k,P.s_l03Rest k x=some r:=by
 obtain⟨m,u⟩:=x;unfold S.s_l03Rest at h;dsimp only at h;split at h
 case isFalse=>cases h
 rename_i hc;obtain⟨M,hM,rfl⟩:=hc;cases h;rw[mv_mp (by decide)];have hI:=hM.2.1;have hn:=hI.1;refine⟨13,?_⟩;unfold P.s_l03Rest;dsimp only;have ec:S.s_l03Classes (mp B10 M,())=some (((clsM M).1,posF 0 (clsM M).2),()):=by
  unfold S.s_l03Classes;dsimp only;rw[if_pos ⟨M,hI,rfl⟩,mv_mp (by decide)]
 rw[ec,Option.bind_some];dsimp only
 by_cases h1:(posF 0 (clsM M).2).length=1
 case neg=>
  rw[if_pos (by simpa using(show ¬((posF 0 (clsM M).2).length:Int)=1 by omega)),restT_none h1];rfl
 rw[if_neg (by simpa using(show((posF 0 (clsM M).2).length:Int)=1 by omega))];obtain⟨k,hk⟩:=len_one h1;rw[restT_one hk,nrm_hd0,mp_len];have hels:=elsOk_of (full:=true) rfl hn (restA_rows hM) (restA_nons hM hk);have key:=loop_up0 (k:=13) (b:=P.s_l03Rest_b1 13) (n:=M.length) (st:=fun j=>((j:Int),(M.length:Int),mp B10 M,om B10 j (M.length+1) (restA M),())) (F:=fun _=>some (((tab M.length (restI M (clC M k))).map (rp B10),true),())) (fun j g hj hg=>by
  unfold P.s_l03Rest_b1;dsimp only at hg ⊢;rw[if_pos (decide_eq_true (by omega)),hd0_dup,nrm_hd0,if_neg (by decide),<-hg];exact rsr_row hM hj g (by decide)) (fun g=>by
  unfold P.s_l03Rest_b1;dsimp only;rw[if_neg (by simp),hd0_dup,nrm_hd0,if_neg (by decide),solve_s hels,Option.bind_some];dsimp only;rw[tab_congr fun i hi=>rest_same hM hk i hi]) (by omega)
 exact key
abbrev s_l03Reverse.A:=Int×Int×List RB×List RB×List (List RB)×Int×List (List RB)×Int×Int×List (List RB)×Unit
abbrev s_l03Reverse.B:=Int×Int×List (List RB)×List RB×List (List RB)×List (List RB)×Unit
abbrev s_l03Reverse.C:=Option ((List (List RB)×Bool)×Unit)
abbrev P.s_l03Reverse_b8 (g7:s_l03Reverse.B->s_l03Reverse.C) (x9:s_l03Reverse.A) (g10:s_l03Reverse.A->s_l03Reverse.C):s_l03Reverse.C:=
 (fun(a b f i j:Int) (c d:List RB) (e h l:List (List RB))=>if decide (a<b)then if decide (0<=a)then if decide (a<(d.length:Int))then if decide (0<=a)then if decide (a<(e.length:Int))then if decide (0<=f)then if decide (f<(List.length (e.getD a.toNat []):Int))then(S.s_l01Times (((d.getD a.toNat (false,[],[])).1,(d.getD a.toNat (false,[],[])).2.1,(d.getD a.toNat (false,[],[])).2.2),((List.getD (e.getD a.toNat []) f.toNat (false,[],[])).1,(List.getD (e.getD a.toNat []) f.toNat (false,[],[])).2.1,(List.getD (e.getD a.toNat []) f.toNat (false,[],[])).2.2),())).bind fun y11=>if decide (0<=f)then if decide (f<(d.length:Int))then(S.s_l01Over ((y11.1.1,y11.1.2.1,y11.1.2.2),((d.getD f.toNat (false,[],[])).1,(d.getD f.toNat (false,[],[])).2.1,(d.getD f.toNat (false,[],[])).2.2),())).bind fun y12=>if decide (((c.length+(List.length [(y12.1.1,y12.1.2.1,y12.1.2.2)]))*56)<=140737488355328)then g10 (wrap .i64 (a+1),b,c++[(y12.1.1,y12.1.2.1,y12.1.2.2)],d,e,f,h,i,j,l,())else none else none else none else none else none else none else none else none else none else if decide (((h.length+(List.length [c]))*24)<=140737488355328)then g7 (wrap .i64 (i+1),j,e,d,h++[c],l,())else none) x9.1 x9.2.1 x9.2.2.2.2.2.1 x9.2.2.2.2.2.2.2.1 x9.2.2.2.2.2.2.2.2.1 x9.2.2.1 x9.2.2.2.1 x9.2.2.2.2.1 x9.2.2.2.2.2.2.1 x9.2.2.2.2.2.2.2.2.2.1
abbrev P.s_l03Reverse_b5 (k:Nat) (x6:s_l03Reverse.B) (g7:s_l03Reverse.B->s_l03Reverse.C):s_l03Reverse.C:=
 if decide (x6.1<x6.2.1)then loopP (P.s_l03Reverse_b8 g7) k (0,(x6.2.2.1.length:Int),[],x6.2.2.2.1,x6.2.2.1,x6.1,x6.2.2.2.2.1,x6.1,x6.2.1,x6.2.2.2.2.2.1,())else some ((x6.2.2.2.2.1,true),())
abbrev P.s_l03Reverse_b1 (k:Nat) (x2:Int×Int×List Int×List (List RB)×List (List RB)×Unit) (g3:Int×Int×List Int×List (List RB)×List (List RB)×Unit->s_l03Reverse.C):s_l03Reverse.C:=
 if decide (x2.1<x2.2.1)then if decide (0<=x2.1)then if decide (x2.1<(x2.2.2.1.length:Int))then if(x2.2.2.1.getD x2.1.toNat 0) != 0 then some (([],false),())else g3 (wrap .i64 (x2.1+1),x2.2.1,x2.2.2.1,x2.2.2.2.1,x2.2.2.2.2.1,())else none else none else(S.s_l03Rest (x2.2.2.2.2.1,())).bind fun y4=>loopP (P.s_l03Reverse_b5 k) k (0,(x2.2.2.2.2.1.length:Int),x2.2.2.2.2.1,y4.1.1,[],x2.2.2.2.1,())
def P.s_l03Reverse (k:Nat) (x:List (List RB)×Unit):s_l03Reverse.C:=
 (S.s_l03Classes (x.1,())).bind fun y0=>loopP (P.s_l03Reverse_b1 k) k (0,(y0.1.1.length:Int),y0.1.1,[],x.1,())
theorem rvs_row {M:List (List Q3)} (h:isCh M) (h1:oneK M=true) {i:Nat} (hi:i<M.length) (g) {K:Nat} (hK:12<K):
  loopP (P.s_l03Reverse_b8 g) K ((0:Int),(M.length:Int),([]:List (Bool×(List Int×List Int))),(tab M.length (restI M (clC M 0))).map (rp B10),mp B10 M,(i:Int),mp B10 (tab i fun i=>tab M.length (revQ M i)),(i:Int),(M.length:Int),([]:List (List (Bool×(List Int×List Int)))),())=g (((i+1:Nat):Int),(M.length:Int),mp B10 M,(tab M.length (restI M (clC M 0))).map (rp B10),mp B10 (tab (i+1) fun i=>tab M.length (revQ M i)),([]:List (List (Bool×(List Int×List Int)))),()):=by
 have hn:=h.2.1.1;obtain⟨o1,o2⟩:=rev_ok h h1;have key:=loop_up0 (k:=K) (b:=P.s_l03Reverse_b8 g) (n:=M.length) (st:=fun j=>((j:Int),(M.length:Int),(tab j (revQ M i)).map (rp B10),(tab M.length (restI M (clC M 0))).map (rp B10),mp B10 M,(i:Int),mp B10 (tab i fun i=>tab M.length (revQ M i)),(i:Int),(M.length:Int),([]:List (List (Bool×(List Int×List Int)))),())) (F:=fun _=>g (((i+1:Nat):Int),(M.length:Int),mp B10 M,(tab M.length (restI M (clC M 0))).map (rp B10),mp B10 (tab (i+1) fun i=>tab M.length (revQ M i)),([]:List (List (Bool×(List Int×List Int)))),())) (fun j g' hj hg=>by
  unfold P.s_l03Reverse_b8;dsimp only at hg ⊢;have e1:(j:Int)<(M.length:Int):=by omega
  have e2:(0:Int)<=(j:Int):=by omega
  have e3:(0:Int)<=(i:Int):=by omega
  have e4:(i:Int)<(M.length:Int):=by omega
  have e7:(j+1)*56<=140737488355328:=by omega
  have e8:((mp B10 M).getD j []).getD i (false,(([]:List Int),([]:List Int)))=rp B10 (mq M j i):=mq_held h.2.1 hj hi;have em:S.s_l01Times (((rp B10 (restI M (clC M 0) j)).1,(rp B10 (restI M (clC M 0) j)).2.1,(rp B10 (restI M (clC M 0) j)).2.2),((rp B10 (mq M j i)).1,(rp B10 (mq M j i)).2.1,(rp B10 (mq M j i)).2.2),())=some (rp B10 (mulQ (restI M (clC M 0) j) (mq M j i)),()):=rs_mul (o1 j hj).1 (o1 j hj).2 (ch_at h hj hi).1 (ch_at h hj hi).2.1 (Nat.le_refl _) (by decide);have eo:S.s_l01Over (((rp B10 (mulQ (restI M (clC M 0) j) (mq M j i))).1,(rp B10 (mulQ (restI M (clC M 0) j) (mq M j i))).2.1,(rp B10 (mulQ (restI M (clC M 0) j) (mq M j i))).2.2),((rp B10 (restI M (clC M 0) i)).1,(rp B10 (restI M (clC M 0) i)).2.1,(rp B10 (restI M (clC M 0) i)).2.2),())=some (rp B10 (revQ M i j),()):=rs_over (o2 i hi j hj).1.1 (o2 i hi j hj).1.2 (o1 i hi).1 (o1 i hi).2 (one_rest h h1 hi) (Nat.le_refl _) (Nat.le_refl _);simp only[Int.toNat_natCast,mp_len,mq_wide h.2.1 hj,List.length_map,tab_len,List.length_cons,List.length_nil,Nat.zero_add,om_num hj,om_num hi,e1,e2,e3,e4,e7,e8,decide_true,if_true];rw[em,Option.bind_some];dsimp only;rw[eo,Option.bind_some];dsimp only;rw[wr (by omega) (by omega)];rw[<-tabm_snoc]at hg;exact hg) (fun g'=>by
  unfold P.s_l03Reverse_b8;dsimp only;have e3:(i+1)*24<=140737488355328:=by omega
  rw[if_neg (by simp)];simp only[mp_len,tab_len,List.length_cons,List.length_nil,Nat.zero_add,e3,decide_true,if_true];rw[wr (by omega) (by omega)];have:mp B10 (tab (i+1) fun i=>tab M.length (revQ M i))=mp B10 (tab i fun i=>tab M.length (revQ M i))++[(tab M.length (revQ M i)).map (rp B10)]:=by
   unfold mp;rw[tab_succ,List.map_append];rfl
  rw[this];rfl) (by omega)
 exact key
open Classical in
def S.s_l03Reverse (x:((List (List RB))×Unit)):(Option (((List (List RB))×Bool)×Unit)):=if ∃M,isCh M/\x.1=mp B10 M then some ((if oneK (mv B10 x.1)=true then(mp B10 (mat (mv B10 x.1).length (revQ (mv B10 x.1))),true)else([],false)),())else none
theorem S.s_l03Reverse_ok (x r) (h:S.s_l03Reverse x=some r):∃k,P.s_l03Reverse k x=some r:=by
 obtain⟨m,u⟩:=x;unfold S.s_l03Reverse at h;dsimp only at h;split at h
 case isFalse=>cases h
 rename_i hc;obtain⟨M,hM,rfl⟩:=hc;cases h;rw[mv_mp (by decide)];have hI:=hM.2.1;have hn:=hI.1;refine⟨13,?_⟩;unfold P.s_l03Reverse;dsimp only;have ec:S.s_l03Classes (mp B10 M,())=some (((clsM M).1,posF 0 (clsM M).2),()):=by
  unfold S.s_l03Classes;dsimp only;rw[if_pos ⟨M,hI,rfl⟩,mv_mp (by decide)]
 have hl:(clsM M).1.length=M.length:=(clsF_len (rcB M) M.length M.length).1;rw[ec,Option.bind_some];dsimp only;rw[hl];have key:∀(m i F:Nat),i+m=M.length->m<F->(∀j,j<i->(clsM M).1.getD j 0=0)->loopP (P.s_l03Reverse_b1 13) F ((i:Int),(M.length:Int),(clsM M).1,([]:List (List (Bool×(List Int×List Int)))),mp B10 M,())=some ((if oneK M=true then(mp B10 (mat M.length (revQ M)),true)else([],false)),()):=by
  intro m
  induction m with
  |zero=>
   intro i F hi hF hz;obtain⟨F,rfl⟩:∃j,F=j+1:=⟨F - 1,by omega⟩
   rw[loopP_succ];have hin:i=M.length:=by omega
   subst hin;have h1:=(oneK_iff hM).2 hz;generalize loopP (P.s_l03Reverse_b1 13) F=g;unfold P.s_l03Reverse_b1;dsimp only;have er:S.s_l03Rest (mp B10 M,())=some (((tab M.length (restI M (clC M 0))).map (rp B10),true),()):=by
    unfold S.s_l03Rest;dsimp only;rw[if_pos ⟨M,hM,rfl⟩,mv_mp (by decide),restT_one (one_pos hM h1)]
   rw[if_neg (by simp),er,Option.bind_some,if_pos h1,mp_len];dsimp only;have key2:=loop_up0 (k:=13) (b:=P.s_l03Reverse_b5 13) (n:=M.length) (st:=fun i=>((i:Int),(M.length:Int),mp B10 M,(tab M.length (restI M (clC M 0))).map (rp B10),mp B10 (tab i fun i=>tab M.length (revQ M i)),([]:List (List (Bool×(List Int×List Int)))),())) (F:=fun _=>some ((mp B10 (mat M.length (revQ M)),true),())) (fun i g hi hg=>by
    unfold P.s_l03Reverse_b5;dsimp only at hg ⊢;rw[if_pos (decide_eq_true (by omega)),mp_len,<-hg];exact rvs_row hM h1 hi g (by decide)) (fun g=>by
    unfold P.s_l03Reverse_b5;dsimp only;rw[if_neg (by simp)];rfl) (by omega)
   exact key2
  |succ m ih=>
   intro i F hi hF hz;obtain⟨F,rfl⟩:∃j,F=j+1:=⟨F - 1,by omega⟩
   rw[loopP_succ];have ih':=ih (i+1) F (by omega) (by omega);generalize loopP (P.s_l03Reverse_b1 13) F=g at ih' ⊢;unfold P.s_l03Reverse_b1;dsimp only;have e1:(i:Int)<(M.length:Int):=by omega
   have e2:(0:Int)<=(i:Int):=by omega
   simp only[hl,Int.toNat_natCast,e1,e2,decide_true,if_true]
   by_cases hz0:(clsM M).1.getD i 0=0
   ·rw[if_neg (by simpa using hz0),wr (by omega) (by omega)];exact ih' fun j hj=>by
     by_cases e:j=i
     ·rw[e];exact hz0
     ·exact hz j (by omega)
   ·rw[if_pos (by simpa using hz0),if_neg (fun q=>hz0 ((oneK_iff hM).1 q i (by omega)))]
 exact key M.length 0 13 (by omega) (by omega) (fun j hj=>by omega)
abbrev s_IsReversible.A:=Int×Int×List (List RB)×List (List RB)×Unit
abbrev P.s_IsReversible_b5 (g4:s_IsReversible.A->Option (Bool×Unit)) (x6:Int×Int×List (List RB)×Int×List (List RB)×Int×Int×Unit) (g7:Int×Int×List (List RB)×Int×List (List RB)×Int×Int×Unit->Option (Bool×Unit)):Option (Bool×Unit):=
 (fun(a b d f h:Int) (c e:List (List RB))=>if decide (a<b)then if decide (0<=d)then if decide (d<(c.length:Int))then if decide (0<=a)then if decide (a<(List.length (c.getD d.toNat []):Int))then if decide (0<=d)then if decide (d<(e.length:Int))then if decide (0<=a)then if decide (a<(List.length (e.getD d.toNat []):Int))then(S.s_l01Equal (((List.getD (c.getD d.toNat []) a.toNat (false,[],[])).1,(List.getD (c.getD d.toNat []) a.toNat (false,[],[])).2.1,(List.getD (c.getD d.toNat []) a.toNat (false,[],[])).2.2),((List.getD (e.getD d.toNat []) a.toNat (false,[],[])).1,(List.getD (e.getD d.toNat []) a.toNat (false,[],[])).2.1,(List.getD (e.getD d.toNat []) a.toNat (false,[],[])).2.2),())).bind fun y8=>if !y8.1 then some (false,())else g7 (wrap .i64 (a+1),b,c,d,e,f,h,())else none else none else none else none else none else none else none else none else g4 (wrap .i64 (f+1),h,c,e,())) x6.1 x6.2.1 x6.2.2.2.1 x6.2.2.2.2.2.1 x6.2.2.2.2.2.2.1 x6.2.2.1 x6.2.2.2.2.1
abbrev P.s_IsReversible_b2 (k:Nat) (x3:s_IsReversible.A) (g4:s_IsReversible.A->Option (Bool×Unit)):Option (Bool×Unit):=
 if decide (x3.1<x3.2.1)then loopP (P.s_IsReversible_b5 g4) k (0,(x3.2.2.1.length:Int),x3.2.2.1,x3.1,x3.2.2.2.1,x3.1,x3.2.1,())else some (true,())
def P.s_IsReversible (k:Nat) (x:List (List ByteArray)×Unit):Option (Bool×Unit):=
 (S.s_l03Parse (x.1,())).bind fun y0=>if !y0.1.2 then some (false,())else(S.s_l03Reverse (y0.1.1,())).bind fun y1=>if !y1.1.2 then some (false,())else loopP (P.s_IsReversible_b2 k) k (0,(y0.1.1.length:Int),y0.1.1,y1.1.1,())
def S.s_IsReversible (x:((List (List ByteArray))×Unit)):(Option (Bool×Unit)):=if x.1.all okT=true then some (irT x.1,())else none
theorem S.s_IsReversible_ok (x r) (h:S.s_IsReversible x=some r):∃k,P.s_IsReversible k x=some r:=by
 obtain⟨u,q⟩:=x;unfold S.s_IsReversible at h;dsimp only at h;split at h
 case isFalse=>cases h
 rename_i hu;cases h;refine⟨13,?_⟩;unfold P.s_IsReversible irT;dsimp only;have ep:S.s_l03Parse (u,())=some ((mp B10 (chQ u).1,(chQ u).2),()):=by
  unfold S.s_l03Parse;exact if_pos hu
 rw[ep,Option.bind_some];dsimp only;cases hf:(chQ u).2
 ·rw[if_pos (by decide)];rfl
 obtain⟨hM,_⟩:=chQ_ok hf;generalize (chQ u).1=M at*;have hI:=hM.2.1;have hn:=hI.1;have er:S.s_l03Reverse (mp B10 M,())=some ((if oneK M=true then(mp B10 (mat M.length (revQ M)),true)else([],false)),()):=by
  unfold S.s_l03Reverse;dsimp only;rw[if_pos ⟨M,hM,rfl⟩,mv_mp (by decide)]
 rw[if_neg (by decide)];cases h1:oneK M
 ·rw[h1,if_neg (by decide)]at er;rw[er,Option.bind_some];rfl
 rw[h1,if_pos rfl]at er;rw[er,Option.bind_some];dsimp only;obtain⟨o1,o2⟩:=rev_ok hM h1;rw[if_neg (by decide),mp_len,<-eqF_all hM,Bool.true_and,Bool.true_and];have inner:∀(i:Nat) (hi:i<M.length) (g:_->Option (Bool×Unit)),loopP (P.s_IsReversible_b5 g) 13 ((0:Int),(M.length:Int),mp B10 M,(i:Int),mp B10 (mat M.length (revQ M)),(i:Int),(M.length:Int),())=if(List.range M.length).all (eqF M i)=true then g (((i+1:Nat):Int),(M.length:Int),mp B10 M,mp B10 (mat M.length (revQ M)),())else some (false,()):=by
  intro i hi g;have key:=loop_up0 (k:=13) (b:=P.s_IsReversible_b5 g) (n:=M.length) (st:=fun j=>((j:Int),(M.length:Int),mp B10 M,(i:Int),mp B10 (mat M.length (revQ M)),(i:Int),(M.length:Int),())) (F:=fun j=>if((List.range M.length).drop j).all (eqF M i)=true then g (((i+1:Nat):Int),(M.length:Int),mp B10 M,mp B10 (mat M.length (revQ M)),())else some (false,())) (fun j g' hj hg=>by
   unfold P.s_IsReversible_b5;dsimp only at hg ⊢;have e1:(j:Int)<(M.length:Int):=by omega
   have e2:(0:Int)<=(j:Int):=by omega
   have e3:(0:Int)<=(i:Int):=by omega
   have e4:(i:Int)<(M.length:Int):=by omega
   have e8:((mp B10 M).getD i []).getD j (false,(([]:List Int),([]:List Int)))=rp B10 (mq M i j):=mq_held hI hi hj;have hr:(mp B10 (mat M.length (revQ M))).getD i []=(tab M.length (revQ M i)).map (rp B10):=by
    rw[mp_at (by rw[mat_len];exact hi)];unfold mat;rw[tab_getD _ _ hi]
   have ee:S.s_l01Equal (((rp B10 (mq M i j)).1,(rp B10 (mq M i j)).2.1,(rp B10 (mq M i j)).2.2),((rp B10 (revQ M i j)).1,(rp B10 (revQ M i j)).2.1,(rp B10 (revQ M i j)).2.2),())=some (eqF M i j,()):=rs_equal (ch_at hM hi hj).1 (o2 i hi j hj).2.1 (below_mono (n:=350000000) (by decide) (ch_at hM hi hj).2.1) (o2 i hi j hj).2.2;simp only[Int.toNat_natCast,mp_len,mat_len,mq_wide hI hi,hr,List.length_map,tab_len,om_num hj,e1,e2,e3,e4,e8,decide_true,if_true];rw[ee,Option.bind_some,all_drop _ hj];dsimp only;cases hq:eqF M i j
   ·rw[if_pos (by decide),Bool.false_and,if_neg (by decide)]
   ·rw[if_neg (by decide),Bool.true_and,wr (by omega) (by omega)];exact hg) (fun g'=>by
   unfold P.s_IsReversible_b5;dsimp only;rw[if_neg (by simp),List.drop_eq_nil_of_le (by simp),wr (by omega) (by omega)];rfl) (by omega)
  rw[List.drop_zero]at key;exact key
 have key:=loop_up0 (k:=13) (b:=P.s_IsReversible_b2 13) (n:=M.length) (st:=fun i=>((i:Int),(M.length:Int),mp B10 M,mp B10 (mat M.length (revQ M)),())) (F:=fun i=>some (((List.range M.length).drop i).all fun i=>(List.range M.length).all (eqF M i),())) (fun i g hi hg=>by
  unfold P.s_IsReversible_b2;dsimp only at hg ⊢;rw[if_pos (decide_eq_true (by omega)),mp_len,inner i hi g,all_drop (fun i=>(List.range M.length).all (eqF M i)) hi];cases hq:(List.range M.length).all (eqF M i)
  ·rw[if_neg (by decide),Bool.false_and]
  ·rw[if_pos rfl,Bool.true_and];exact hg) (fun g=>by
  unfold P.s_IsReversible_b2;dsimp only;rw[if_neg (by simp),List.drop_eq_nil_of_le (by simp)];rfl) (by omega)
 rw[List.drop_zero]at key;exact key
def P.i_magnitude (k:Nat) (x:Int×Unit):Option (Int×Unit):=
 if decide (x.1<0)then some (wrap .u64 (0 - (wrap .u64 x.1)),())else some (wrap .u64 x.1,())
def S.i_magnitude (x:(Int×Unit)):(Option (Int×Unit)):=if -9223372036854775808<=x.1/\x.1<=9223372036854775807 then some (((x.1.natAbs:Nat):Int),())else none
theorem S.i_magnitude_ok (x r) (h:S.i_magnitude x=some r):∃k,P.i_magnitude k x=some r:=by
 obtain⟨n,u⟩:=x;unfold S.i_magnitude at h;dsimp only at h;split at h
 case isFalse=>cases h
 rename_i hc;cases h;refine⟨0,?_⟩;unfold P.i_magnitude;dsimp only;have hw:∀y:Int,IntKind.wrap .u64 y=y%18446744073709551616:=fun _=>rfl
 rw[hw,hw]
 by_cases h0:n<0
 ·rw[if_pos (decide_eq_true h0)];congr 2;omega
 ·rw[if_neg (by simpa using h0)];congr 2;omega
abbrev P.i_nat_trim_b0 (x1:List Int×Unit) (g2:List Int×Unit->Option (List Int×Unit)):Option (List Int×Unit):=
 if decide ((x1.1.length:Int)>0)then if decide (0<=(wrap .i64 ((x1.1.length:Int) - 1)))then if decide ((wrap .i64 ((x1.1.length:Int) - 1))<(x1.1.length:Int))then if(x1.1.getD (Int.toNat (wrap .i64 ((x1.1.length:Int) - 1))) 0)==0 then if decide (0<=(wrap .i64 ((x1.1.length:Int) - 1)))then if decide ((wrap .i64 ((x1.1.length:Int) - 1))<=(x1.1.length:Int))then if decide (0<=(wrap .i64 ((x1.1.length:Int) - 1)))then g2 (seen x1.1 0 ((Int.toNat (wrap .i64 ((x1.1.length:Int) - 1))) - 0),())else none else none else none else some (x1.1,())else none else none else some (x1.1,())
def P.i_nat_trim (k:Nat) (x:List Int×Unit):Option (List Int×Unit):=
 loopP P.i_nat_trim_b0 k (x.1,())
theorem trim_loop (n:Nat):∀(xs:List Int) (k:Nat),xs.length=n->n<k->n<=1000000000000->dig B32 xs=true->loopP (X:=((List Int)×Unit)) (R:=((List Int)×Unit)) P.i_nat_trim_b0 k (xs,())=some (nd B32 (dval B32 xs),()):=by
 induction n with
 |zero=>
  intro xs k hx hk _ _;have:xs=[]:=List.eq_nil_of_length_eq_zero hx;subst this;obtain⟨k,rfl⟩:∃j,k=j+1:=⟨k - 1,by omega⟩
  rw[loopP_succ];unfold P.i_nat_trim_b0;rw[if_neg (by simp)];rw[show dval B32 []=0 from rfl,nd_zero B32_le]
 |succ n ih=>
  intro xs k hx hk hn hd;obtain⟨k,rfl⟩:∃j,k=j+1:=⟨k - 1,by omega⟩
  rw[loopP_succ];unfold P.i_nat_trim_b0;dsimp only;have e0:IntKind.wrap .i64 ((xs.length:Int) - 1)=(n:Int):=by rw[wr (by omega) (by omega)];omega
  have e1:(xs.length:Int)>0:=by omega
  have e2:(0:Int)<=(n:Int):=by omega
  have e3:(n:Int)<(xs.length:Int):=by omega
  have e4:(n:Int)<=(xs.length:Int):=by omega
  rw[e0];simp only[e1,e2,e3,e4,decide_true,if_true];rw[getD_cast xs n _ (by omega)];have hs:=take_snoc xs n hx;have hdt:dig B32 (xs.take n++[xs[n]])=true:=by rw[<-hs];exact hd
  by_cases hz:xs[n]=0
  ·rw[if_pos (by simp [hz])];have e5:seen xs 0 ((n:Int).toNat - 0)=xs.take n:=by simp [seen]
   rw[e5];have hdt':=hdt;rw[dig_append,Bool.and_eq_true]at hdt';rw[ih (xs.take n) k (by simp;omega) (by omega) (by omega) hdt'.1];have:dval B32 xs=dval B32 (xs.take n):=by
    conv=>lhs;rw[hs,hz]
    exact dval_snoc_zero _
   rw[this]
  ·rw[if_neg (by simp [hz])];have:=nd_snoc B32_le (xs.take n) xs[n] hdt hz;rw[<-hs]at this;rw[this]
def S.i_nat_trim (x:((List Int)×Unit)):(Option ((List Int)×Unit)):=if dig B32 x.1=true/\x.1.length<=1000000000000 then some (nd B32 (dval B32 x.1),())else none
theorem S.i_nat_trim_ok (x r) (h:S.i_nat_trim x=some r):∃k,P.i_nat_trim k x=some r:=by
 obtain⟨xs,u⟩:=x;unfold S.i_nat_trim at h;dsimp only at h;split at h
 case isFalse=>cases h
 rename_i hc;cases h;exact⟨xs.length+1,trim_loop xs.length xs _ rfl (by omega) hc.2 hc.1⟩
theorem trim_i (xs:List Int) (h:dig B32 xs=true) (hl:xs.length<=1000000000000):S.i_nat_trim (xs,())=some (nd B32 (dval B32 xs),()):=by
 unfold S.i_nat_trim;dsimp only;rw[if_pos ⟨h,hl⟩]
def P.i_natOf (k:Nat) (x:Int×Unit):Option (List Int×Unit):=
 (S.i_nat_trim ((wrap .u32 x.1)::[wrap .u32 (Int.fdiv x.1 4294967296)],())).bind fun y0=>some (y0.1,())
def S.i_natOf (x:(Int×Unit)):(Option ((List Int)×Unit)):=if 0<=x.1/\x.1<18446744073709551616 then some (nd B32 x.1.toNat,())else none
theorem S.i_natOf_ok (x r) (h:S.i_natOf x=some r):∃k,P.i_natOf k x=some r:=by
 obtain⟨n,u⟩:=x;unfold S.i_natOf at h;dsimp only at h;split at h
 case isFalse=>cases h
 rename_i hc;cases h;refine⟨0,?_⟩;unfold P.i_natOf;dsimp only;have hf:Int.fdiv n 4294967296=n/4294967296:=Int.fdiv_eq_ediv_of_nonneg _ (by omega);rw[hf,u32_mod n hc.1,u32_mod _ (by omega)];have hd:dig B32 [n%4294967296,n/4294967296%4294967296]=true:=by
  rw[dig_cons,dig_cons];refine⟨⟨by omega,?_⟩,⟨by omega,?_⟩,rfl⟩
  ·show _<(4294967296:Int);omega
  ·show _<(4294967296:Int);omega
 rw[trim_i _ hd (by simp),Option.bind_some];have:dval B32 [n%4294967296,n/4294967296%4294967296]=n.toNat:=by
  simp only[dval];show(n%4294967296).toNat+4294967296*((n/4294967296%4294967296).toNat+4294967296*0)=n.toNat;omega
 rw[this]
def P.i_whole (k:Nat) (x:Int×Unit):Option (RB×Unit):=
 (S.i_magnitude (x.1,())).bind fun y0=>(S.i_natOf (y0.1,())).bind fun y1=>(S.i_natOf (1,())).bind fun y2=>some ((decide (x.1<0),y1.1,y2.1),())
def S.i_whole (x:(Int×Unit)):(Option (RB×Unit)):=if -9223372036854775808<=x.1/\x.1<=9223372036854775807 then some (rp B32 (wholeQ x.1),())else none
theorem S.i_whole_ok (x r) (h:S.i_whole x=some r):∃k,P.i_whole k x=some r:=by
 obtain⟨n,u⟩:=x;unfold S.i_whole at h;dsimp only at h;split at h
 case isFalse=>cases h
 rename_i hc;cases h;refine⟨0,?_⟩;unfold P.i_whole S.i_magnitude S.i_natOf;dsimp only;rw[if_pos hc,Option.bind_some];dsimp only;rw[if_pos ⟨by omega,by omega⟩,Option.bind_some,Int.toNat_natCast,if_pos ⟨by decide,by decide⟩,Option.bind_some];rfl
abbrev P.i_nat_cmp_b0 (x1:Int×List Int×List Int×Unit) (g2:Int×List Int×List Int×Unit->Option (Int×Unit)):Option (Int×Unit):=
 (fun(a:Int) (b c:List Int)=>if decide (a>=0)then if decide (0<=a)then if decide (a<(b.length:Int))then if decide (0<=a)then if decide (a<(c.length:Int))then if(b.getD a.toNat 0) != (c.getD a.toNat 0)then if decide (0<=a)then if decide (a<(b.length:Int))then if decide (0<=a)then if decide (a<(c.length:Int))then if decide ((b.getD a.toNat 0)<(c.getD a.toNat 0))then some ((-1:Int),())else some (1,())else none else none else none else none else g2 (wrap .i64 (a - 1),b,c,())else none else none else none else none else some (0,())) x1.1 x1.2.1 x1.2.2.1
def P.i_nat_cmp (k:Nat) (x:List Int×List Int×Unit):Option (Int×Unit):=
 if(x.1.length:Int) != (x.2.1.length:Int)then if decide ((x.1.length:Int)<(x.2.1.length:Int))then some ((-1:Int),())else some (1,())else loopP P.i_nat_cmp_b0 k (wrap .i64 ((x.1.length:Int) - 1),x.1,x.2.1,())
def S.i_nat_cmp (x:((List Int)×((List Int)×Unit))):(Option (Int×Unit)):=if canon B32 x.1=true/\canon B32 x.2.1=true/\x.1.length<=1000000000000 then some (cmpN (dval B32 x.1) (dval B32 x.2.1),())else none
theorem S.i_nat_cmp_ok (x r) (h:S.i_nat_cmp x=some r):∃k,P.i_nat_cmp k x=some r:=by
 obtain⟨xs,ys,u⟩:=x;unfold S.i_nat_cmp at h;dsimp only at h;split at h
 case isFalse=>cases h
 rename_i hc;obtain⟨cx,cy,hl⟩:=hc;cases h;refine⟨xs.length+1,?_⟩;unfold P.i_nat_cmp;dsimp only
 by_cases hn:xs.length=ys.length
 ·rw[if_neg (by simp [hn]),wr (by omega) (by omega)];have key:=loop_up0 (k:=xs.length+1) (b:=P.i_nat_cmp_b0) (n:=xs.length) (st:=fun j=>((xs.length:Int) - 1 - (j:Int),xs,ys,())) (F:=fun j=>some (cmpN (dval B32 (xs.take (xs.length - j))) (dval B32 (ys.take (xs.length - j))),())) (fun j g hj hg=>by
   unfold P.i_nat_cmp_b0;dsimp only at hg ⊢;have e1:(xs.length:Int) - 1 - (j:Int)>=0:=by omega
   have e3:(0:Int)<=(xs.length:Int) - 1 - (j:Int):=by omega
   have e4:(xs.length:Int) - 1 - (j:Int)<(xs.length:Int):=by omega
   have e4':(xs.length:Int) - 1 - (j:Int)<(ys.length:Int):=by omega
   simp only[e1,e4,e4',decide_true,if_true];have hi:xs.length - (j+1)<xs.length:=by omega
   have hi':xs.length - (j+1)<ys.length:=by omega
   have e5:(xs.length:Int) - 1 - (j:Int)=((xs.length - (j+1):Nat):Int):=by omega
   have e6:xs.length - j=(xs.length - (j+1))+1:=by omega
   rw[e5,getD_cast xs _ _ hi,getD_cast ys _ _ hi',e6];generalize xs.length - (j+1)=i at*
   by_cases hq:xs[i]=ys[i]
   ·rw[if_neg (by simp [hq]),wr (by omega) (by omega)];have e7:((i:Nat):Int) - 1=(xs.length:Int) - 1 - ((j+1:Nat):Int):=by omega
    rw[e7,hg,<-List.take_append_getElem hi,<-List.take_append_getElem hi',dval_append,dval_append,hq];have hlx:(xs.take i).length=i:=by simp;omega
    have hly:(ys.take i).length=i:=by simp;omega
    rw[hlx,hly];unfold cmpN;simp only[Nat.add_lt_add_iff_right]
   ·rw[if_pos (by simp [hq])]
    by_cases hlt:xs[i]<ys[i]
    ·have:=dval_top xs ys i hi hi' (canon_dig cx) (canon_dig cy) hlt;rw[if_pos (decide_eq_true hlt),cmpN,if_pos this]
    ·have:=dval_top ys xs i hi' hi (canon_dig cy) (canon_dig cx) (by omega);rw[if_neg (by simpa using hlt),cmpN,if_neg (by omega),if_pos this]) (fun g=>by
   unfold P.i_nat_cmp_b0;dsimp only;rw[if_neg (by simp;omega),Nat.sub_self,List.take_zero,List.take_zero];rfl) (by omega)
  rw[show(xs.length:Int) - 1 - ((0:Nat):Int)=(xs.length:Int) - 1 by omega,Nat.sub_zero,List.take_length,List.take_of_length_le (by omega)]at key;exact key
 ·rw[if_pos (by simp;omega)]
  by_cases hlt:xs.length<ys.length
  ·rw[if_pos (decide_eq_true (by omega)),cmpN,if_pos (canon_small B32_le cx cy hlt)]
  ·have:=canon_small B32_le cy cx (by omega);rw[if_neg (by simp;omega),cmpN,if_neg (by omega),if_pos this]
abbrev i_nat_mul.A:=Int×Int×List Int×Int×Int×List Int×Int×List Int×Int×Int×List Int×Unit
abbrev i_nat_mul.B:=Int×Int×List Int×List Int×List Int×Unit
abbrev i_nat_mul.C:=Option (List Int×Unit)
abbrev P.i_nat_mul_b3 (g2:i_nat_mul.B->i_nat_mul.C) (x4:i_nat_mul.A) (g5:i_nat_mul.A->i_nat_mul.C):i_nat_mul.C:=
 (fun(a b d e h j l:Int) (c f i m:List Int)=>if decide (a<b)then if decide (0<=a)then if decide (a<(c.length:Int))then if decide (0<=(wrap .i64 (h+a)))then if decide ((wrap .i64 (h+a))<(f.length:Int))then if decide (0<=(wrap .i64 (h+a)))then if decide ((wrap .i64 (h+a))<(f.length:Int))then g5 (wrap .i64 (a+1),b,c,Int.fdiv (wrap .u64 (d+(wrap .u64 ((wrap .u64 ((wrap .u64 e)*(wrap .u64 (c.getD a.toNat 0))))+(wrap .u64 (f.getD (0+(Int.toNat (wrap .i64 (h+a)))) 0)))))) 4294967296,e,f.set (0+(Int.toNat (wrap .i64 (h+a)))) (wrap .u32 (wrap .u64 (d+(wrap .u64 ((wrap .u64 ((wrap .u64 e)*(wrap .u64 (c.getD a.toNat 0))))+(wrap .u64 (f.getD (0+(Int.toNat (wrap .i64 (h+a)))) 0))))))),h,i,j,l,m,())else none else none else none else none else none else none else if decide (0<=(wrap .i64 (h+(i.length:Int))))then if decide ((wrap .i64 (h+(i.length:Int)))<(f.length:Int))then g2 (wrap .i64 (j+1),l,m,i,f.set (0+(Int.toNat (wrap .i64 (h+(i.length:Int))))) (wrap .u32 d),())else none else none) x4.1 x4.2.1 x4.2.2.2.1 x4.2.2.2.2.1 x4.2.2.2.2.2.2.1 x4.2.2.2.2.2.2.2.2.1 x4.2.2.2.2.2.2.2.2.2.1 x4.2.2.1 x4.2.2.2.2.2.1 x4.2.2.2.2.2.2.2.1 x4.2.2.2.2.2.2.2.2.2.2.1
abbrev P.i_nat_mul_b0 (k:Nat) (x1:i_nat_mul.B) (g2:i_nat_mul.B->i_nat_mul.C):i_nat_mul.C:=
 if decide (x1.1<x1.2.1)then if decide (0<=x1.1)then if decide (x1.1<(x1.2.2.1.length:Int))then loopP (P.i_nat_mul_b3 g2) k (0,(x1.2.2.2.1.length:Int),x1.2.2.2.1,0,x1.2.2.1.getD x1.1.toNat 0,x1.2.2.2.2.1,x1.1,x1.2.2.2.1,x1.1,x1.2.1,x1.2.2.1,())else none else none else(S.i_nat_trim (x1.2.2.2.2.1,())).bind fun y6=>some (y6.1,())
def P.i_nat_mul (k:Nat) (x:List Int×List Int×Unit):i_nat_mul.C:=
 if decide (0<=(wrap .i64 ((x.1.length:Int)+(x.2.1.length:Int))))then if decide ((wrap .i64 ((x.1.length:Int)+(x.2.1.length:Int)))<=(wrap .i64 ((x.1.length:Int)+(x.2.1.length:Int))))then if decide (((wrap .i64 ((x.1.length:Int)+(x.2.1.length:Int)))*4)<=281474976710656)then loopP (P.i_nat_mul_b0 k) k (0,(x.1.length:Int),x.1,x.2.1,List.replicate (Int.toNat (wrap .i64 ((x.1.length:Int)+(x.2.1.length:Int)))) 0,())else none else none else none
theorem im_inner (g:(Int×(Int×((List Int)×((List Int)×((List Int)×Unit)))))->(Option ((List Int)×Unit))) (F:Option ((List Int)×Unit)) {xs ys:List Int} (hx:dig B32 xs=true) (hy:dig B32 ys=true) (hlx:xs.length<=10000000000) (hly:ys.length<=10000000000) {i:Nat} (hi:i<xs.length) (K:Nat) (hK:ys.length<K)
  (hg:g (((i+1:Nat):Int),((xs.length:Int),(xs,(ys,(fd B32 (xs.length+ys.length) (dval B32 (xs.take (i+1))*dval B32 ys),())))))=F):
  loopP (P.i_nat_mul_b3 g) K ((0:Int),((ys.length:Int),(ys,((0:Int),(xs.getD i 0,(fd B32 (xs.length+ys.length) (dval B32 (xs.take i)*dval B32 ys),((i:Int),(ys,((i:Int),((xs.length:Int),(xs,())))))))))))=F:=by
 have hA:=mul_bound B32_le hx hy i (by omega);have hA':=mul_bound B32_le hx hy (i+1) (by omega);have gx:=dig_getD (B:=B32) (by decide) hx i;have gx1:xs.getD i 0<4294967296:=gx.2;have gx0:=gx.1;rw[dval_take_succ,Nat.add_mul,Nat.mul_assoc]at hg hA';generalize dval B32 (xs.take i)*dval B32 ys=A at*;obtain⟨x,hxe⟩:∃x:Nat,xs.getD i 0=(x:Int):=⟨(xs.getD i 0).toNat,by omega⟩
 rw[hxe,Int.toNat_natCast]at hg hA';rw[hxe]at gx1 ⊢;have hxB:x<B32:=by show x<4294967296;omega
 have hsh:=mul_shape B32_le hi hA;rw[hsh];have hlw:(fd B32 ys.length (A/B32^i)).length=ys.length:=fd_len _ _ _;have hdw:dig B32 (fd B32 ys.length (A/B32^i))=true:=dig_fd (by decide) _ _;have hvw:dval B32 (fd B32 ys.length (A/B32^i))=A/B32^i:=by
  rw[dval_fd,Nat.mod_eq_of_lt];rw[Nat.div_lt_iff_lt_mul (Nat.pow_pos (by decide)),<-Nat.pow_add,Nat.add_comm];exact hA
 have hnext:=mul_next B32_le (la:=xs.length) (lb:=ys.length) (R:=x*dval B32 ys) hi hA';generalize hR:List.replicate (xs.length - 1 - i) (0:Int)=R at*;have hRl:R.length=xs.length - 1 - i:=by rw[<-hR,List.length_replicate]
 generalize hW:fd B32 ys.length (A/B32^i)=W at*;have hl0:(fd B32 i A).length=i:=fd_len _ _ _;have key:=loop_up0 (k:=K) (b:=P.i_nat_mul_b3 g) (n:=ys.length) (st:=fun k=>((k:Int),(ys.length:Int),ys,((maUp B32 x W ys k).2:Int),(x:Int),(fd B32 i A++(maUp B32 x W ys k).1)++(W.drop k++(0:Int)::R),(i:Int),ys,(i:Int),(xs.length:Int),xs,())) (F:=fun k=>F) (fun k g' hk hg'=>by
  unfold P.i_nat_mul_b3;dsimp only at hg' ⊢;refine Eq.trans ?_ hg';clear hg';obtain⟨q1,q2,q3,q4⟩:=maUp_ok (x:=x) B32_le hxB hdw hy k;have q4':(maUp B32 x W ys k).2<4294967296:=q4;have gy:=dig_getD (B:=B32) (by decide) hy k;have gw:=dig_getD (B:=B32) (by decide) hdw k;have gy1:ys.getD k 0<4294967296:=gy.2;have gw1:W.getD k 0<4294967296:=gw.2;have gy0:=gy.1;have gw0:=gw.1;have hAl:(fd B32 i A++(maUp B32 x W ys k).1).length=i+k:=by rw[List.length_append,hl0,q2]
  have hlen:((fd B32 i A++(maUp B32 x W ys k).1)++(W.drop k++(0:Int)::R)).length=xs.length+ys.length:=by
   rw[List.length_append,hAl,List.length_append,List.length_drop,List.length_cons,hlw,hRl];omega
  have e1:(k:Int)<(ys.length:Int):=by omega
  have e2:(0:Int)<=(k:Int):=by omega
  have e3:(0:Int)<=((i+k:Nat):Int):=by omega
  have e4:((i+k:Nat):Int)<((xs.length+ys.length:Nat):Int):=by omega
  rw[hlen,<-Int.natCast_add i k,wr (x:=((i+k:Nat):Int)) (by omega) (by omega)];simp only[e1,e2,e3,e4,decide_true,if_true,Nat.zero_add,Int.toNat_natCast];rw[drop_cons_getD (xs:=W) (i:=k) (by omega),List.cons_append,mid_get hAl];simp only[mid_set hAl];rw[maUp];dsimp only;generalize W.getD k 0=w at*;generalize ys.getD k 0=y at*;generalize maUp B32 x W ys k=p at*;obtain⟨pl,c0⟩:=p;dsimp only at*;obtain⟨Y,rfl⟩:∃Y:Nat,y=(Y:Int):=⟨y.toNat,by omega⟩
  obtain⟨w',rfl⟩:∃Y:Nat,w=(Y:Int):=⟨w.toNat,by omega⟩
  rw[Int.toNat_natCast,Int.toNat_natCast];have hxY:x*Y<=4294967295*4294967295:=Nat.mul_le_mul (by omega) (by omega);rw[wu (x:=(x:Int)) (by omega) (by omega),wu (x:=(Y:Int)) (by omega) (by omega),<-Int.natCast_mul,wu (x:=((x*Y:Nat):Int)) (by omega) (by omega),wu (x:=(w':Int)) (by omega) (by omega),<-Int.natCast_add,wu (x:=((x*Y+w':Nat):Int)) (by omega) (by omega),<-Int.natCast_add,wu (x:=((c0+(x*Y+w'):Nat):Int)) (by omega) (by omega),Int.fdiv_eq_ediv_of_nonneg _ (by omega),u32_emod,wr (x:=(k:Int)+1) (by omega) (by omega)];have e8:((c0+(x*Y+w'):Nat):Int)%4294967296=(((c0+(x*Y+w'))%B32:Nat):Int):=by
   show _=(((c0+(x*Y+w'))%4294967296:Nat):Int)
   omega
  have e9:((c0+(x*Y+w'):Nat):Int)/4294967296=(((c0+(x*Y+w'))/B32:Nat):Int):=by
   show _=(((c0+(x*Y+w'))/4294967296:Nat):Int)
   omega
  rw[e8,e9,<-List.append_assoc (fd B32 i A)];rfl) (fun g'=>by
  unfold P.i_nat_mul_b3;dsimp only;obtain⟨q1,q2,q3,q4⟩:=maUp_ok (x:=x) B32_le hxB hdw hy ys.length;have q4':(maUp B32 x W ys ys.length).2<4294967296:=q4;rw[List.take_length,<-hlw,List.take_length,hlw,hvw]at q3;have hAl:(fd B32 i A++(maUp B32 x W ys ys.length).1).length=i+ys.length:=by rw[List.length_append,hl0,q2]
  have hlen:((fd B32 i A++(maUp B32 x W ys ys.length).1)++(W.drop ys.length++(0:Int)::R)).length=xs.length+ys.length:=by
   rw[List.length_append,hAl,List.length_append,List.length_drop,List.length_cons,hlw,hRl];omega
  have e1:¬((ys.length:Int)<(ys.length:Int)):=by omega
  have e3:(0:Int)<=((i+ys.length:Nat):Int):=by omega
  have e4:((i+ys.length:Nat):Int)<((xs.length+ys.length:Nat):Int):=by omega
  rw[hlen,<-Int.natCast_add i ys.length,wr (x:=((i+ys.length:Nat):Int)) (by omega) (by omega)];simp only[e1,e3,e4,decide_true,decide_false,if_true,if_false,Bool.false_eq_true,Nat.zero_add,Int.toNat_natCast];rw[List.drop_of_length_le (by omega),List.nil_append,mid_set hAl,w32 (by omega) (by omega),wr (x:=(i:Int)+1) (by omega) (by omega)];generalize maUp B32 x W ys ys.length=p at*;obtain⟨pl,c0⟩:=p;dsimp only at*;have hlt:=dval_lt q1;rw[q2]at hlt;have hpl:pl=fd B32 ys.length (A/B32^i+x*dval B32 ys):=by
   have:=fd_eq B32_le q1 q2 rfl;rw[this,<-q3,<-fd_mod B32 ys.length (_+_),Nat.add_mul_mod_self_left,fd_mod]
  have hc0:c0=(A/B32^i+x*dval B32 ys)/B32^ys.length:=by
   rw[<-q3,Nat.add_mul_div_left _ _ (Nat.pow_pos (by decide)),Nat.div_eq_of_lt hlt,Nat.zero_add]
  rw[List.append_assoc _ [_],List.singleton_append,hpl,hc0,hnext];exact hg) hK
 rw[show(fd B32 i A++(maUp B32 x W ys 0).1)++(W.drop 0++(0:Int)::R)=(fd B32 i A++W)++(0:Int)::R by rw[show(maUp B32 x W ys 0).1=[]from rfl,List.append_nil,List.drop_zero,List.append_assoc]]at key;exact key
def S.i_nat_mul (x:((List Int)×((List Int)×Unit))):(Option ((List Int)×Unit)):=if dig B32 x.1=true/\dig B32 x.2.1=true/\x.1.length<=10000000000/\x.2.1.length<=10000000000 then some (nd B32 (dval B32 x.1*dval B32 x.2.1),())else none
theorem S.i_nat_mul_ok (x r) (h:S.i_nat_mul x=some r):∃k,P.i_nat_mul k x=some r:=by
 obtain⟨xs,ys,u⟩:=x;unfold S.i_nat_mul at h;dsimp only at h;split at h
 case isFalse=>cases h
 rename_i hc;obtain⟨dx,dy,lx,ly⟩:=hc;cases h;refine⟨xs.length+ys.length+1,?_⟩;unfold P.i_nat_mul;dsimp only;have a1:(0:Int)<=((xs.length+ys.length:Nat):Int):=by omega
 have a2:((xs.length+ys.length:Nat):Int)*4<=281474976710656:=by omega
 rw[<-Int.natCast_add,wr (x:=((xs.length+ys.length:Nat):Int)) (by omega) (by omega)];simp only[a1,a2,decide_true,if_true,Int.le_refl,Int.toNat_natCast];have key:=loop_up0 (k:=xs.length+ys.length+1) (b:=P.i_nat_mul_b0 (xs.length+ys.length+1)) (n:=xs.length) (st:=fun i=>((i:Int),(xs.length:Int),xs,ys,fd B32 (xs.length+ys.length) (dval B32 (xs.take i)*dval B32 ys),())) (F:=fun i=>some (nd B32 (dval B32 xs*dval B32 ys),())) (fun i g hi hg=>by
  unfold P.i_nat_mul_b0;dsimp only at hg ⊢;have e1:(i:Int)<(xs.length:Int):=by omega
  have e2:(0:Int)<=(i:Int):=by omega
  simp only[e1,e2,decide_true,if_true,Int.toNat_natCast];exact im_inner g _ dx dy lx ly hi _ (by omega) hg) (fun g=>by
  unfold P.i_nat_mul_b0;dsimp only;rw[if_neg (by simp),List.take_length];unfold S.i_nat_trim;dsimp only;have hb:=mul_bound B32_le dx dy xs.length (Nat.le_refl _);rw[List.take_length]at hb;rw[if_pos ⟨dig_fd (by decide) _ _,by rw[fd_len];omega⟩,Option.bind_some,nd_fd B32_le hb]) (by omega)
 rw[List.take_zero,show dval B32 []*dval B32 ys=0 by simp [dval],fd_zero]at key;exact key
end Go.Cm
end
