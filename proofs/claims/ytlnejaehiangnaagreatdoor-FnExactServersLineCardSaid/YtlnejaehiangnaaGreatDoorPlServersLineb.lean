import Derived.Test.YtlnejaehiangnaaGreatDoorPlServersLinea
set_option linter.unusedVariables false
set_option maxRecDepth 100000
noncomputable section
namespace Go.Cm
def P.s_l01Parse (k:Nat) (x:(ByteArray×Unit)):(Option ((RB×Bool)×Unit)):=
 (if((decide ((((ByteArray.size x.1):Nat):Int)>(0:Int)))=true)then(if((decide ((0:Int)<(((ByteArray.size x.1):Nat):Int)))=true)then(if(((byteAt x.1 (0:Int))==(45:Int))=true)then(if((decide ((0:Int)≤(((ByteArray.size x.1):Nat):Int)))=true)then(if((decide ((((ByteArray.size x.1):Nat):Int)≤(((ByteArray.size x.1):Nat):Int)))=true)then(if((decide ((1:Int)≤(((ByteArray.size x.1):Nat):Int)))=true)then(Option.bind (S.s_l01Cut ((ByteArray.extract x.1 (1:Nat) (Int.toNat (((ByteArray.size x.1):Nat):Int))),((47:Int),()))) (fun(y0:((List ByteArray)×Unit))=>(if((decide (((List.length y0.1):Int)>(2:Int)))=true)then(some (((false,(([]:List Int),([]:List Int))),false),()))
 else(if((decide ((0:Int)<((List.length y0.1):Int)))=true)then(Option.bind (S.s_l01Digits ((List.getD y0.1 (0:Nat) (bs [])),())) (fun(y1:(Bool×Unit))=>(if((!y1.1)=true)then(some (((false,(([]:List Int),([]:List Int))),false),()))
 else(if((decide ((0:Int)<((List.length y0.1):Int)))=true)then(Option.bind (S.s_l01NatRead ((List.getD y0.1 (0:Nat) (bs [])),())) (fun(y2:((List Int)×Unit))=>(if(((byteAt x.1 (0:Int))==(45:Int))=true)then(if((((List.length y2.1):Int)==(0:Int))=true)then(some (((false,(([]:List Int),([]:List Int))),false),()))
 else(if((((List.length y0.1):Int)==(1:Int))=true)then(some (((((byteAt x.1 (0:Int))==(45:Int)),(y2.1,((1:Int)::([]:List Int)))),true),()))
 else(if((decide ((1:Int)<((List.length y0.1):Int)))=true)then(Option.bind (S.s_l01Digits ((List.getD y0.1 (1:Nat) (bs [])),())) (fun(y3:(Bool×Unit))=>(if((!y3.1)=true)then(some (((false,(([]:List Int),([]:List Int))),false),()))
 else(if((decide ((1:Int)<((List.length y0.1):Int)))=true)then(Option.bind (S.s_l01NatRead ((List.getD y0.1 (1:Nat) (bs [])),())) (fun(y4:((List Int)×Unit))=>(Option.bind (S.s_l01Cmp (y4.1,(((1:Int)::([]:List Int)),()))) (fun(y5:(Int×Unit))=>(if((decide (y5.1≤(0:Int)))=true)then(some (((false,(([]:List Int),([]:List Int))),false),()))
 else(Option.bind (S.s_l01Gcd (y2.1,(y4.1,()))) (fun(y6:((List Int)×Unit))=>(Option.bind (S.s_l01Cmp (y6.1,(((1:Int)::([]:List Int)),()))) (fun(y7:(Int×Unit))=>(if((y7.1 != (0:Int))=true)then(some (((false,(([]:List Int),([]:List Int))),false),()))
 else(some (((((byteAt x.1 (0:Int))==(45:Int)),(y2.1,y4.1)),true),()))))))))))))
 else none))))
 else none)))
 else(if((((List.length y0.1):Int)==(1:Int))=true)then(some (((((byteAt x.1 (0:Int))==(45:Int)),(y2.1,((1:Int)::([]:List Int)))),true),()))
 else(if((decide ((1:Int)<((List.length y0.1):Int)))=true)then(Option.bind (S.s_l01Digits ((List.getD y0.1 (1:Nat) (bs [])),())) (fun(y8:(Bool×Unit))=>(if((!y8.1)=true)then(some (((false,(([]:List Int),([]:List Int))),false),()))
 else(if((decide ((1:Int)<((List.length y0.1):Int)))=true)then(Option.bind (S.s_l01NatRead ((List.getD y0.1 (1:Nat) (bs [])),())) (fun(y9:((List Int)×Unit))=>(Option.bind (S.s_l01Cmp (y9.1,(((1:Int)::([]:List Int)),()))) (fun(y10:(Int×Unit))=>(if((decide (y10.1≤(0:Int)))=true)then(some (((false,(([]:List Int),([]:List Int))),false),()))
 else(Option.bind (S.s_l01Gcd (y2.1,(y9.1,()))) (fun(y11:((List Int)×Unit))=>(Option.bind (S.s_l01Cmp (y11.1,(((1:Int)::([]:List Int)),()))) (fun(y12:(Int×Unit))=>(if((y12.1 != (0:Int))=true)then(some (((false,(([]:List Int),([]:List Int))),false),()))
 else(some (((((byteAt x.1 (0:Int))==(45:Int)),(y2.1,y9.1)),true),()))))))))))))
 else none))))
 else none)))))
 else none))))
 else none))))
 else none)
 else none)
 else none)
 else(Option.bind (S.s_l01Cut (x.1,((47:Int),()))) (fun(y13:((List ByteArray)×Unit))=>(if((decide (((List.length y13.1):Int)>(2:Int)))=true)then(some (((false,(([]:List Int),([]:List Int))),false),()))
 else(if((decide ((0:Int)<((List.length y13.1):Int)))=true)then(Option.bind (S.s_l01Digits ((List.getD y13.1 (0:Nat) (bs [])),())) (fun(y14:(Bool×Unit))=>(if((!y14.1)=true)then(some (((false,(([]:List Int),([]:List Int))),false),()))
 else(if((decide ((0:Int)<((List.length y13.1):Int)))=true)then(Option.bind (S.s_l01NatRead ((List.getD y13.1 (0:Nat) (bs [])),())) (fun(y15:((List Int)×Unit))=>(if(((byteAt x.1 (0:Int))==(45:Int))=true)then(if((((List.length y15.1):Int)==(0:Int))=true)then(some (((false,(([]:List Int),([]:List Int))),false),()))
 else(if((((List.length y13.1):Int)==(1:Int))=true)then(some (((((byteAt x.1 (0:Int))==(45:Int)),(y15.1,((1:Int)::([]:List Int)))),true),()))
 else(if((decide ((1:Int)<((List.length y13.1):Int)))=true)then(Option.bind (S.s_l01Digits ((List.getD y13.1 (1:Nat) (bs [])),())) (fun(y16:(Bool×Unit))=>(if((!y16.1)=true)then(some (((false,(([]:List Int),([]:List Int))),false),()))
 else(if((decide ((1:Int)<((List.length y13.1):Int)))=true)then(Option.bind (S.s_l01NatRead ((List.getD y13.1 (1:Nat) (bs [])),())) (fun(y17:((List Int)×Unit))=>(Option.bind (S.s_l01Cmp (y17.1,(((1:Int)::([]:List Int)),()))) (fun(y18:(Int×Unit))=>(if((decide (y18.1≤(0:Int)))=true)then(some (((false,(([]:List Int),([]:List Int))),false),()))
 else(Option.bind (S.s_l01Gcd (y15.1,(y17.1,()))) (fun(y19:((List Int)×Unit))=>(Option.bind (S.s_l01Cmp (y19.1,(((1:Int)::([]:List Int)),()))) (fun(y20:(Int×Unit))=>(if((y20.1 != (0:Int))=true)then(some (((false,(([]:List Int),([]:List Int))),false),()))
 else(some (((((byteAt x.1 (0:Int))==(45:Int)),(y15.1,y17.1)),true),()))))))))))))
 else none))))
 else none)))
 else(if((((List.length y13.1):Int)==(1:Int))=true)then(some (((((byteAt x.1 (0:Int))==(45:Int)),(y15.1,((1:Int)::([]:List Int)))),true),()))
 else(if((decide ((1:Int)<((List.length y13.1):Int)))=true)then(Option.bind (S.s_l01Digits ((List.getD y13.1 (1:Nat) (bs [])),())) (fun(y21:(Bool×Unit))=>(if((!y21.1)=true)then(some (((false,(([]:List Int),([]:List Int))),false),()))
 else(if((decide ((1:Int)<((List.length y13.1):Int)))=true)then(Option.bind (S.s_l01NatRead ((List.getD y13.1 (1:Nat) (bs [])),())) (fun(y22:((List Int)×Unit))=>(Option.bind (S.s_l01Cmp (y22.1,(((1:Int)::([]:List Int)),()))) (fun(y23:(Int×Unit))=>(if((decide (y23.1≤(0:Int)))=true)then(some (((false,(([]:List Int),([]:List Int))),false),()))
 else(Option.bind (S.s_l01Gcd (y15.1,(y22.1,()))) (fun(y24:((List Int)×Unit))=>(Option.bind (S.s_l01Cmp (y24.1,(((1:Int)::([]:List Int)),()))) (fun(y25:(Int×Unit))=>(if((y25.1 != (0:Int))=true)then(some (((false,(([]:List Int),([]:List Int))),false),()))
 else(some (((((byteAt x.1 (0:Int))==(45:Int)),(y15.1,y22.1)),true),()))))))))))))
 else none))))
 else none)))))
 else none))))
 else none)))))
 else none)
 else(Option.bind (S.s_l01Cut (x.1,((47:Int),()))) (fun(y26:((List ByteArray)×Unit))=>(if((decide (((List.length y26.1):Int)>(2:Int)))=true)then(some (((false,(([]:List Int),([]:List Int))),false),()))
 else(if((decide ((0:Int)<((List.length y26.1):Int)))=true)then(Option.bind (S.s_l01Digits ((List.getD y26.1 (0:Nat) (bs [])),())) (fun(y27:(Bool×Unit))=>(if((!y27.1)=true)then(some (((false,(([]:List Int),([]:List Int))),false),()))
 else(if((decide ((0:Int)<((List.length y26.1):Int)))=true)then(Option.bind (S.s_l01NatRead ((List.getD y26.1 (0:Nat) (bs [])),())) (fun(y28:((List Int)×Unit))=>(if((((List.length y26.1):Int)==(1:Int))=true)then(some (((false,(y28.1,((1:Int)::([]:List Int)))),true),()))
 else(if((decide ((1:Int)<((List.length y26.1):Int)))=true)then(Option.bind (S.s_l01Digits ((List.getD y26.1 (1:Nat) (bs [])),())) (fun(y29:(Bool×Unit))=>(if((!y29.1)=true)then(some (((false,(([]:List Int),([]:List Int))),false),()))
 else(if((decide ((1:Int)<((List.length y26.1):Int)))=true)then(Option.bind (S.s_l01NatRead ((List.getD y26.1 (1:Nat) (bs [])),())) (fun(y30:((List Int)×Unit))=>(Option.bind (S.s_l01Cmp (y30.1,(((1:Int)::([]:List Int)),()))) (fun(y31:(Int×Unit))=>(if((decide (y31.1≤(0:Int)))=true)then(some (((false,(([]:List Int),([]:List Int))),false),()))
 else(Option.bind (S.s_l01Gcd (y28.1,(y30.1,()))) (fun(y32:((List Int)×Unit))=>(Option.bind (S.s_l01Cmp (y32.1,(((1:Int)::([]:List Int)),()))) (fun(y33:(Int×Unit))=>(if((y33.1 != (0:Int))=true)then(some (((false,(([]:List Int),([]:List Int))),false),()))
 else(some (((false,(y28.1,y30.1)),true),()))))))))))))
 else none))))
 else none))))
 else none))))
 else none)))))
theorem pp_sign (T:ByteArray) (n:Bool) (hsz:T.size≤1000000):
  (Option.bind (S.s_l01Cut (T,((47:Int),()))) (fun(z0:((List ByteArray)×Unit))=>(if((decide (((List.length z0.1):Int)>(2:Int)))=true)then(some (((false,(([]:List Int),([]:List Int))),false),()))
 else(if((decide ((0:Int)<((List.length z0.1):Int)))=true)then(Option.bind (S.s_l01Digits ((List.getD z0.1 (0:Nat) (Go.Cm.bs [])),())) (fun(z1:(Bool×Unit))=>(if((!z1.1)=true)then(some (((false,(([]:List Int),([]:List Int))),false),()))
 else(if((decide ((0:Int)<((List.length z0.1):Int)))=true)then(Option.bind (S.s_l01NatRead ((List.getD z0.1 (0:Nat) (Go.Cm.bs [])),())) (fun(z2:((List Int)×Unit))=>(if(n=true)then(if((((List.length z2.1):Int)==(0:Int))=true)then(some (((false,(([]:List Int),([]:List Int))),false),()))
 else(if((((List.length z0.1):Int)==(1:Int))=true)then(some (((n,(z2.1,((1:Int)::([]:List Int)))),true),()))
 else(if((decide ((1:Int)<((List.length z0.1):Int)))=true)then(Option.bind (S.s_l01Digits ((List.getD z0.1 (1:Nat) (Go.Cm.bs [])),())) (fun(z3:(Bool×Unit))=>(if((!z3.1)=true)then(some (((false,(([]:List Int),([]:List Int))),false),()))
 else(if((decide ((1:Int)<((List.length z0.1):Int)))=true)then(Option.bind (S.s_l01NatRead ((List.getD z0.1 (1:Nat) (Go.Cm.bs [])),())) (fun(z4:((List Int)×Unit))=>(Option.bind (S.s_l01Cmp (z4.1,(((1:Int)::([]:List Int)),()))) (fun(z5:(Int×Unit))=>(if((decide (z5.1≤(0:Int)))=true)then(some (((false,(([]:List Int),([]:List Int))),false),()))
 else(Option.bind (S.s_l01Gcd (z2.1,(z4.1,()))) (fun(z6:((List Int)×Unit))=>(Option.bind (S.s_l01Cmp (z6.1,(((1:Int)::([]:List Int)),()))) (fun(z7:(Int×Unit))=>(if((z7.1 != (0:Int))=true)then(some (((false,(([]:List Int),([]:List Int))),false),()))
 else(some (((n,(z2.1,z4.1)),true),()))))))))))))
 else none))))
 else none)))
 else(if((((List.length z0.1):Int)==(1:Int))=true)then(some (((n,(z2.1,((1:Int)::([]:List Int)))),true),()))
 else(if((decide ((1:Int)<((List.length z0.1):Int)))=true)then(Option.bind (S.s_l01Digits ((List.getD z0.1 (1:Nat) (Go.Cm.bs [])),())) (fun(z8:(Bool×Unit))=>(if((!z8.1)=true)then(some (((false,(([]:List Int),([]:List Int))),false),()))
 else(if((decide ((1:Int)<((List.length z0.1):Int)))=true)then(Option.bind (S.s_l01NatRead ((List.getD z0.1 (1:Nat) (Go.Cm.bs [])),())) (fun(z9:((List Int)×Unit))=>(Option.bind (S.s_l01Cmp (z9.1,(((1:Int)::([]:List Int)),()))) (fun(z10:(Int×Unit))=>(if((decide (z10.1≤(0:Int)))=true)then(some (((false,(([]:List Int),([]:List Int))),false),()))
 else(Option.bind (S.s_l01Gcd (z2.1,(z9.1,()))) (fun(z11:((List Int)×Unit))=>(Option.bind (S.s_l01Cmp (z11.1,(((1:Int)::([]:List Int)),()))) (fun(z12:(Int×Unit))=>(if((z12.1 != (0:Int))=true)then(some (((false,(([]:List Int),([]:List Int))),false),()))
 else(some (((n,(z2.1,z9.1)),true),()))))))))))))
 else none))))
 else none)))))
 else none))))
 else none))))=some ((rp B10 (rdBody n (cutP 47 T.data.toList)).1,(rdBody n (cutP 47 T.data.toList)).2),()):=by
 have hbad:((false,(([]:List Int),([]:List Int))),false)=(rp B10 noQ.1,noQ.2):=by
  unfold noQ rp
  dsimp only
  rw[nd_zero B10_le]
 have hcut:S.s_l01Cut (T,(47,()))=some ((cutUp T 47 (T.size+1)).1,()):=by
  unfold S.s_l01Cut
  exact if_pos hsz
 have hp:(cutUp T 47 (T.size+1)).1.map (·.data.toList)=pieces 47 T.data.toList:=cutUp_pieces T 47
 have hlen:∀A∈(cutUp T 47 (T.size+1)).1,A.data.toList.length≤1000000:=by
  intro A hA
  have h1:=pieces_len 47 T.data.toList A.data.toList (by rw[←hp];exact List.mem_map_of_mem hA)
  have h2:T.size=T.data.toList.length:=by rw[Array.length_toList];rfl
  omega
 rw[hcut,Option.bind_some,hbad]
 generalize (cutUp T 47 (T.size+1)).1=ps at*
 rw[pieces_cutP]at hp
 generalize hc:cutP 47 T.data.toList=c at*
 have hDig:∀A∈ps,S.s_l01Digits (A,())=some (okN A.data.toList,()):=by
  intro A hA
  have h1:=hlen A hA
  have h2:A.size=A.data.toList.length:=by rw[Array.length_toList];rfl
  unfold S.s_l01Digits
  exact if_pos (by dsimp only;omega)
 have hRead:∀A∈ps,okN A.data.toList=true→S.s_l01NatRead (A,())=some (nd B10 (dv A.data.toList),()):=by
  intro A hA hok
  have h1:=okN_allD hok
  unfold S.s_l01NatRead
  exact if_pos ⟨h1.1,by dsimp only;omega⟩
 have hz:∀m:Nat,(((nd B10 m).length:Int)==0)=decide (m=0):=by
  intro m
  have:=canon_nil B10_le (canon_nd B10_le m)
  rw[dval_nd B10_le]at this
  by_cases h0:m=0
  ·rw[this.2 h0,h0];rfl
  ·have hne:=fun q=>h0 (this.1 q)
   rw[decide_eq_false h0]
   simpa using hne
 have hone:([1]:List Int)=nd B10 1:=(nd_one B10_le).symm
 unfold rdBody
 cases hf:c.2.2
 ·
  rw[hf,if_neg (by decide)]at hp
  obtain⟨A,rfl,hA⟩:∃A,ps=[A]∧A.data.toList=c.1:=by
   exact List.map_eq_singleton_iff.1 hp
  have hd:=hDig A (by simp)
  have hr:=hRead A (by simp)
  rw[hA]at hd hr
  have l1:¬(((List.length [A]:Nat):Int)>2):=by simp
  have l2:(0:Int)<((List.length [A]:Nat):Int):=by simp
  have l3:(((List.length [A]:Nat):Int)==1)=true:=rfl
  simp only[l1,l2,l3,decide_true,decide_false,if_true,if_false,Bool.false_eq_true,List.getD_cons_zero]
  rw[hd,Option.bind_some]
  dsimp only
  cases hok:okN c.1
  ·rw[if_pos (show(!false)=true by rfl),if_neg (fun q=>by cases q.1)]
  ·rw[if_neg (show ¬((!true)=true) by decide),hr hok,Option.bind_some]
   dsimp only
   rw[hz]
   cases n
   ·rw[if_neg (show ¬((false:Bool)=true) by decide),if_pos ⟨rfl,fun q=>by cases q.1⟩,hone]
    rfl
   ·rw[if_pos rfl]
    by_cases h0:dv c.1=0
    ·rw[if_pos (decide_eq_true h0),if_neg (fun q=>q.2 ⟨rfl,h0⟩)]
    ·rw[if_neg (by simpa using h0),if_pos ⟨rfl,fun q=>h0 q.2⟩,hone]
     rfl
 ·rw[hf,if_pos rfl,pieces_cutP]at hp
  cases hf2:(cutP 47 c.2.1).2.2
  ·rw[hf2,if_neg (by decide)]at hp
   have hy:(cutP 47 c.2.1).1=c.2.1:=((cutP_index 47 c.2.1).1 hf2).2.1
   rw[hy]at hp
   obtain⟨A,B,rfl,hA,hB⟩:∃A B,ps=[A,B]∧A.data.toList=c.1∧B.data.toList=c.2.1:=by
    obtain⟨A,q,rfl,hA,hq⟩:=List.map_eq_cons_iff.1 hp
    obtain⟨B,rfl,hB⟩:=List.map_eq_singleton_iff.1 hq
    exact⟨A,B,rfl,hA,hB⟩
   have hd:=hDig A (by simp)
   have hr:=hRead A (by simp)
   have hd2:=hDig B (by simp)
   have hr2:=hRead B (by simp)
   rw[hA]at hd hr
   rw[hB]at hd2 hr2
   have l1:¬(((List.length [A,B]:Nat):Int)>2):=by simp
   have l2:(0:Int)<((List.length [A,B]:Nat):Int):=by simp
   have l3:(((List.length [A,B]:Nat):Int)==1)=false:=rfl
   have l4:(1:Int)<((List.length [A,B]:Nat):Int):=by simp
   simp only[l1,l2,l3,l4,decide_true,decide_false,if_true,if_false,Bool.false_eq_true,List.getD_cons_zero,List.getD_cons_succ]
   rw[hd,Option.bind_some]
   dsimp only
   cases hok:okN c.1
   ·rw[if_pos (show(!false)=true by rfl),if_neg (fun q=>by cases q.1)]
   ·rw[if_neg (show ¬((!true)=true) by decide),hr hok,Option.bind_some]
    dsimp only
    have la:=nd_len200 (B:=B10) (by decide) (okN_lt hok)
    have hrest:∀(m:Bool),¬(m=true∧dv c.1=0)→(Option.bind (S.s_l01Digits (B,())) (fun(w0:(Bool×Unit))=>(if((!w0.1)=true)then(some ((rp B10 noQ.1,noQ.2),()))
 else(Option.bind (S.s_l01NatRead (B,())) (fun(w1:((List Int)×Unit))=>(Option.bind (S.s_l01Cmp (w1.1,(((1:Int)::([]:List Int)),()))) (fun(w2:(Int×Unit))=>(if((decide (w2.1≤(0:Int)))=true)then(some ((rp B10 noQ.1,noQ.2),()))
 else(Option.bind (S.s_l01Gcd (nd B10 (dv c.1),(w1.1,()))) (fun(w3:((List Int)×Unit))=>(Option.bind (S.s_l01Cmp (w3.1,(((1:Int)::([]:List Int)),()))) (fun(w4:(Int×Unit))=>(if((w4.1 != (0:Int))=true)then(some ((rp B10 noQ.1,noQ.2),()))
 else(some (((m,(nd B10 (dv c.1),w1.1)),true),())))))))))))))))=some ((rp B10 (if okN c.2.1=true∧1<dv c.2.1∧Nat.gcd (dv c.1) (dv c.2.1)=1 then((m,(dv c.1,dv c.2.1)),true)else noQ).1,(if okN c.2.1=true∧1<dv c.2.1∧Nat.gcd (dv c.1) (dv c.2.1)=1 then((m,(dv c.1,dv c.2.1)),true)else noQ).2),()):=by
     intro m hm
     rw[hd2,Option.bind_some]
     dsimp only
     cases hb:okN c.2.1
     ·have hx:¬((false:Bool)=true∧1<dv c.2.1∧Nat.gcd (dv c.1) (dv c.2.1)=1):=fun q=>by cases q.1
      rw[if_pos (show(!false)=true by rfl),if_neg hx]
     ·have lb:=nd_len200 (B:=B10) (by decide) (okN_lt hb)
      rw[if_neg (show ¬((!true)=true) by decide),hr2 hb,Option.bind_some]
      dsimp only
      have e1:S.s_l01Cmp (nd B10 (dv c.2.1),([1],()))=some (cmpN (dv c.2.1) 1,()):=by
       unfold S.s_l01Cmp
       dsimp only
       rw[if_pos ⟨canon_nd B10_le _,canon_one B10_le,by omega⟩,dval_nd B10_le,dval_one]
      have e2:S.s_l01Gcd (nd B10 (dv c.1),(nd B10 (dv c.2.1),()))=some (nd B10 (Nat.gcd (dv c.1) (dv c.2.1)),()):=by
       unfold S.s_l01Gcd
       dsimp only
       rw[if_pos ⟨canon_nd B10_le _,canon_nd B10_le _,by omega,by omega⟩,dval_nd B10_le,dval_nd B10_le]
      rw[e1,Option.bind_some]
      dsimp only
      by_cases h1:1<dv c.2.1
      ·have hcm:¬(cmpN (dv c.2.1) 1≤0):=by
        have:=(cmpN_gt (a:=dv c.2.1) (b:=1)).2 h1
        omega
       have lg:(nd B10 (Nat.gcd (dv c.1) (dv c.2.1))).length≤200:=Nat.le_trans (nd_shorter' B10_le (Nat.le_of_dvd (by omega) (Nat.gcd_dvd_right _ _))) lb
       have e3:S.s_l01Cmp (nd B10 (Nat.gcd (dv c.1) (dv c.2.1)),([1],()))=some (cmpN (Nat.gcd (dv c.1) (dv c.2.1)) 1,()):=by
        unfold S.s_l01Cmp
        dsimp only
        rw[if_pos ⟨canon_nd B10_le _,canon_one B10_le,by omega⟩,dval_nd B10_le,dval_one]
       rw[if_neg (by simpa using hcm),e2,Option.bind_some]
       dsimp only
       rw[e3,Option.bind_some]
       dsimp only
       by_cases hg:Nat.gcd (dv c.1) (dv c.2.1)=1
       ·rw[if_neg (by simpa using cmpN_zero.2 hg),if_pos ⟨rfl,h1,hg⟩]
        rfl
       ·rw[if_pos (by simpa using fun q=>hg (cmpN_zero.1 q)),if_neg (fun q=>hg q.2.2)]
      ·have hcm:cmpN (dv c.2.1) 1≤0:=by
        have h2:¬(cmpN (dv c.2.1) 1>0):=fun q=>h1 ((cmpN_gt (a:=dv c.2.1) (b:=1)).1 q)
        omega
       rw[if_pos (decide_eq_true hcm),if_neg (fun q=>h1 q.2.1)]
    rw[hz]
    cases n
    ·have hm:¬((false:Bool)=true∧dv c.1=0):=fun q=>by cases q.1
     rw[if_neg (show ¬((false:Bool)=true) by decide),if_pos ⟨rfl,hm⟩]
     exact hrest false hm
    ·rw[if_pos rfl]
     by_cases h0:dv c.1=0
     ·rw[if_pos (decide_eq_true h0),if_neg (fun q=>q.2 ⟨rfl,h0⟩)]
     ·have hm:¬((true:Bool)=true∧dv c.1=0):=fun q=>h0 q.2
      rw[if_neg (by simpa using h0),if_pos ⟨rfl,hm⟩]
      exact hrest true hm
  ·
   rw[hf2,if_pos rfl]at hp
   have hl:ps.length=2+(pieces 47 (cutP 47 c.2.1).2.1).length:=by
    have:=congrArg List.length hp
    simp at this
    omega
   have hl2:(pieces 47 (cutP 47 c.2.1).2.1).length≠0:=fun q=>pieces_ne 47 _ (List.eq_nil_of_length_eq_zero q)
   have l1:((ps.length:Nat):Int)>2:=by omega
   have hx:¬(okN c.2.1=true∧1<dv c.2.1∧Nat.gcd (dv c.1) (dv c.2.1)=1):=fun q=>by
    have:=cutP_allD (okN_allD q.1).1
    rw[hf2]at this
    cases this
   rw[if_pos (decide_eq_true l1),if_pos rfl,if_neg hx]
   split<;>rfl
theorem pp_plain (T:ByteArray) (hsz:T.size≤1000000):
  (Option.bind (S.s_l01Cut (T,((47:Int),()))) (fun(z0:((List ByteArray)×Unit))=>(if((decide (((List.length z0.1):Int)>(2:Int)))=true)then(some (((false,(([]:List Int),([]:List Int))),false),()))
 else(if((decide ((0:Int)<((List.length z0.1):Int)))=true)then(Option.bind (S.s_l01Digits ((List.getD z0.1 (0:Nat) (Go.Cm.bs [])),())) (fun(z1:(Bool×Unit))=>(if((!z1.1)=true)then(some (((false,(([]:List Int),([]:List Int))),false),()))
 else(if((decide ((0:Int)<((List.length z0.1):Int)))=true)then(Option.bind (S.s_l01NatRead ((List.getD z0.1 (0:Nat) (Go.Cm.bs [])),())) (fun(z2:((List Int)×Unit))=>(if((((List.length z0.1):Int)==(1:Int))=true)then(some (((false,(z2.1,((1:Int)::([]:List Int)))),true),()))
 else(if((decide ((1:Int)<((List.length z0.1):Int)))=true)then(Option.bind (S.s_l01Digits ((List.getD z0.1 (1:Nat) (Go.Cm.bs [])),())) (fun(z3:(Bool×Unit))=>(if((!z3.1)=true)then(some (((false,(([]:List Int),([]:List Int))),false),()))
 else(if((decide ((1:Int)<((List.length z0.1):Int)))=true)then(Option.bind (S.s_l01NatRead ((List.getD z0.1 (1:Nat) (Go.Cm.bs [])),())) (fun(z4:((List Int)×Unit))=>(Option.bind (S.s_l01Cmp (z4.1,(((1:Int)::([]:List Int)),()))) (fun(z5:(Int×Unit))=>(if((decide (z5.1≤(0:Int)))=true)then(some (((false,(([]:List Int),([]:List Int))),false),()))
 else(Option.bind (S.s_l01Gcd (z2.1,(z4.1,()))) (fun(z6:((List Int)×Unit))=>(Option.bind (S.s_l01Cmp (z6.1,(((1:Int)::([]:List Int)),()))) (fun(z7:(Int×Unit))=>(if((z7.1 != (0:Int))=true)then(some (((false,(([]:List Int),([]:List Int))),false),()))
 else(some (((false,(z2.1,z4.1)),true),()))))))))))))
 else none))))
 else none))))
 else none))))
 else none))))=some ((rp B10 (rdBody false (cutP 47 T.data.toList)).1,(rdBody false (cutP 47 T.data.toList)).2),()):=by
 have hbad:((false,(([]:List Int),([]:List Int))),false)=(rp B10 noQ.1,noQ.2):=by
  unfold noQ rp
  dsimp only
  rw[nd_zero B10_le]
 have hcut:S.s_l01Cut (T,(47,()))=some ((cutUp T 47 (T.size+1)).1,()):=by
  unfold S.s_l01Cut
  exact if_pos hsz
 have hp:(cutUp T 47 (T.size+1)).1.map (·.data.toList)=pieces 47 T.data.toList:=cutUp_pieces T 47
 have hlen:∀A∈(cutUp T 47 (T.size+1)).1,A.data.toList.length≤1000000:=by
  intro A hA
  have h1:=pieces_len 47 T.data.toList A.data.toList (by rw[←hp];exact List.mem_map_of_mem hA)
  have h2:T.size=T.data.toList.length:=by rw[Array.length_toList];rfl
  omega
 rw[hcut,Option.bind_some,hbad]
 generalize (cutUp T 47 (T.size+1)).1=ps at*
 rw[pieces_cutP]at hp
 generalize hc:cutP 47 T.data.toList=c at*
 have hDig:∀A∈ps,S.s_l01Digits (A,())=some (okN A.data.toList,()):=by
  intro A hA
  have h1:=hlen A hA
  have h2:A.size=A.data.toList.length:=by rw[Array.length_toList];rfl
  unfold S.s_l01Digits
  exact if_pos (by dsimp only;omega)
 have hRead:∀A∈ps,okN A.data.toList=true→S.s_l01NatRead (A,())=some (nd B10 (dv A.data.toList),()):=by
  intro A hA hok
  have h1:=okN_allD hok
  unfold S.s_l01NatRead
  exact if_pos ⟨h1.1,by dsimp only;omega⟩
 have hz:∀m:Nat,(((nd B10 m).length:Int)==0)=decide (m=0):=by
  intro m
  have:=canon_nil B10_le (canon_nd B10_le m)
  rw[dval_nd B10_le]at this
  by_cases h0:m=0
  ·rw[this.2 h0,h0];rfl
  ·have hne:=fun q=>h0 (this.1 q)
   rw[decide_eq_false h0]
   simpa using hne
 have hone:([1]:List Int)=nd B10 1:=(nd_one B10_le).symm
 unfold rdBody
 cases hf:c.2.2
 ·
  rw[hf,if_neg (by decide)]at hp
  obtain⟨A,rfl,hA⟩:∃A,ps=[A]∧A.data.toList=c.1:=by
   exact List.map_eq_singleton_iff.1 hp
  have hd:=hDig A (by simp)
  have hr:=hRead A (by simp)
  rw[hA]at hd hr
  have l1:¬(((List.length [A]:Nat):Int)>2):=by simp
  have l2:(0:Int)<((List.length [A]:Nat):Int):=by simp
  have l3:(((List.length [A]:Nat):Int)==1)=true:=rfl
  simp only[l1,l2,l3,decide_true,decide_false,if_true,if_false,Bool.false_eq_true,List.getD_cons_zero]
  rw[hd,Option.bind_some]
  dsimp only
  cases hok:okN c.1
  ·rw[if_pos (show(!false)=true by rfl),if_neg (fun q=>by cases q.1)]
  ·rw[if_neg (show ¬((!true)=true) by decide),hr hok,Option.bind_some]
   dsimp only
   rw[if_pos ⟨rfl,fun q=>by cases q.1⟩,hone]
   rfl
 ·rw[hf,if_pos rfl,pieces_cutP]at hp
  cases hf2:(cutP 47 c.2.1).2.2
  ·rw[hf2,if_neg (by decide)]at hp
   have hy:(cutP 47 c.2.1).1=c.2.1:=((cutP_index 47 c.2.1).1 hf2).2.1
   rw[hy]at hp
   obtain⟨A,B,rfl,hA,hB⟩:∃A B,ps=[A,B]∧A.data.toList=c.1∧B.data.toList=c.2.1:=by
    obtain⟨A,q,rfl,hA,hq⟩:=List.map_eq_cons_iff.1 hp
    obtain⟨B,rfl,hB⟩:=List.map_eq_singleton_iff.1 hq
    exact⟨A,B,rfl,hA,hB⟩
   have hd:=hDig A (by simp)
   have hr:=hRead A (by simp)
   have hd2:=hDig B (by simp)
   have hr2:=hRead B (by simp)
   rw[hA]at hd hr
   rw[hB]at hd2 hr2
   have l1:¬(((List.length [A,B]:Nat):Int)>2):=by simp
   have l2:(0:Int)<((List.length [A,B]:Nat):Int):=by simp
   have l3:(((List.length [A,B]:Nat):Int)==1)=false:=rfl
   have l4:(1:Int)<((List.length [A,B]:Nat):Int):=by simp
   simp only[l1,l2,l3,l4,decide_true,decide_false,if_true,if_false,Bool.false_eq_true,List.getD_cons_zero,List.getD_cons_succ]
   rw[hd,Option.bind_some]
   dsimp only
   cases hok:okN c.1
   ·rw[if_pos (show(!false)=true by rfl),if_neg (fun q=>by cases q.1)]
   ·rw[if_neg (show ¬((!true)=true) by decide),hr hok,Option.bind_some]
    dsimp only
    have la:=nd_len200 (B:=B10) (by decide) (okN_lt hok)
    have hrest:∀(m:Bool),¬(m=true∧dv c.1=0)→(Option.bind (S.s_l01Digits (B,())) (fun(w0:(Bool×Unit))=>(if((!w0.1)=true)then(some ((rp B10 noQ.1,noQ.2),()))
 else(Option.bind (S.s_l01NatRead (B,())) (fun(w1:((List Int)×Unit))=>(Option.bind (S.s_l01Cmp (w1.1,(((1:Int)::([]:List Int)),()))) (fun(w2:(Int×Unit))=>(if((decide (w2.1≤(0:Int)))=true)then(some ((rp B10 noQ.1,noQ.2),()))
 else(Option.bind (S.s_l01Gcd (nd B10 (dv c.1),(w1.1,()))) (fun(w3:((List Int)×Unit))=>(Option.bind (S.s_l01Cmp (w3.1,(((1:Int)::([]:List Int)),()))) (fun(w4:(Int×Unit))=>(if((w4.1 != (0:Int))=true)then(some ((rp B10 noQ.1,noQ.2),()))
 else(some (((m,(nd B10 (dv c.1),w1.1)),true),())))))))))))))))=some ((rp B10 (if okN c.2.1=true∧1<dv c.2.1∧Nat.gcd (dv c.1) (dv c.2.1)=1 then((m,(dv c.1,dv c.2.1)),true)else noQ).1,(if okN c.2.1=true∧1<dv c.2.1∧Nat.gcd (dv c.1) (dv c.2.1)=1 then((m,(dv c.1,dv c.2.1)),true)else noQ).2),()):=by
     intro m hm
     rw[hd2,Option.bind_some]
     dsimp only
     cases hb:okN c.2.1
     ·have hx:¬((false:Bool)=true∧1<dv c.2.1∧Nat.gcd (dv c.1) (dv c.2.1)=1):=fun q=>by cases q.1
      rw[if_pos (show(!false)=true by rfl),if_neg hx]
     ·have lb:=nd_len200 (B:=B10) (by decide) (okN_lt hb)
      rw[if_neg (show ¬((!true)=true) by decide),hr2 hb,Option.bind_some]
      dsimp only
      have e1:S.s_l01Cmp (nd B10 (dv c.2.1),([1],()))=some (cmpN (dv c.2.1) 1,()):=by
       unfold S.s_l01Cmp
       dsimp only
       rw[if_pos ⟨canon_nd B10_le _,canon_one B10_le,by omega⟩,dval_nd B10_le,dval_one]
      have e2:S.s_l01Gcd (nd B10 (dv c.1),(nd B10 (dv c.2.1),()))=some (nd B10 (Nat.gcd (dv c.1) (dv c.2.1)),()):=by
       unfold S.s_l01Gcd
       dsimp only
       rw[if_pos ⟨canon_nd B10_le _,canon_nd B10_le _,by omega,by omega⟩,dval_nd B10_le,dval_nd B10_le]
      rw[e1,Option.bind_some]
      dsimp only
      by_cases h1:1<dv c.2.1
      ·have hcm:¬(cmpN (dv c.2.1) 1≤0):=by
        have:=(cmpN_gt (a:=dv c.2.1) (b:=1)).2 h1
        omega
       have lg:(nd B10 (Nat.gcd (dv c.1) (dv c.2.1))).length≤200:=Nat.le_trans (nd_shorter' B10_le (Nat.le_of_dvd (by omega) (Nat.gcd_dvd_right _ _))) lb
       have e3:S.s_l01Cmp (nd B10 (Nat.gcd (dv c.1) (dv c.2.1)),([1],()))=some (cmpN (Nat.gcd (dv c.1) (dv c.2.1)) 1,()):=by
        unfold S.s_l01Cmp
        dsimp only
        rw[if_pos ⟨canon_nd B10_le _,canon_one B10_le,by omega⟩,dval_nd B10_le,dval_one]
       rw[if_neg (by simpa using hcm),e2,Option.bind_some]
       dsimp only
       rw[e3,Option.bind_some]
       dsimp only
       by_cases hg:Nat.gcd (dv c.1) (dv c.2.1)=1
       ·rw[if_neg (by simpa using cmpN_zero.2 hg),if_pos ⟨rfl,h1,hg⟩]
        rfl
       ·rw[if_pos (by simpa using fun q=>hg (cmpN_zero.1 q)),if_neg (fun q=>hg q.2.2)]
      ·have hcm:cmpN (dv c.2.1) 1≤0:=by
        have h2:¬(cmpN (dv c.2.1) 1>0):=fun q=>h1 ((cmpN_gt (a:=dv c.2.1) (b:=1)).1 q)
        omega
       rw[if_pos (decide_eq_true hcm),if_neg (fun q=>h1 q.2.1)]
    have hm:¬((false:Bool)=true∧dv c.1=0):=fun q=>by cases q.1
    rw[if_pos ⟨rfl,fun q=>q.1⟩]
    exact hrest false hm
  ·
   rw[hf2,if_pos rfl]at hp
   have hl:ps.length=2+(pieces 47 (cutP 47 c.2.1).2.1).length:=by
    have:=congrArg List.length hp
    simp at this
    omega
   have hl2:(pieces 47 (cutP 47 c.2.1).2.1).length≠0:=fun q=>pieces_ne 47 _ (List.eq_nil_of_length_eq_zero q)
   have l1:((ps.length:Nat):Int)>2:=by omega
   have hx:¬(okN c.2.1=true∧1<dv c.2.1∧Nat.gcd (dv c.1) (dv c.2.1)=1):=fun q=>by
    have:=cutP_allD (okN_allD q.1).1
    rw[hf2]at this
    cases this
   rw[if_pos (decide_eq_true l1),if_pos rfl,if_neg hx]
   split<;>rfl
def S.s_l01Parse (x:(ByteArray×Unit)):(Option ((RB×Bool)×Unit)):=if x.1.size≤1000000 then some ((rp B10 (rdRat x.1.data.toList).1,(rdRat x.1.data.toList).2),())else none
theorem S.s_l01Parse_ok (x:(ByteArray×Unit)) (r:_) (h:S.s_l01Parse x=some r):∃k,P.s_l01Parse k x=some r:=by
 obtain⟨s,u⟩:=x
 unfold S.s_l01Parse at h
 dsimp only at h
 split at h
 case isFalse=>cases h
 rename_i hsz
 refine⟨0,?_⟩
 rw[←h]
 unfold P.s_l01Parse
 dsimp only
 have hs:s.size=s.data.toList.length:=by rw[Array.length_toList];rfl
 unfold rdRat
 by_cases h0:s.data.toList=[]
 ·have l1:¬((s.size:Int)>0):=by rw[hs,h0];simp
  rw[if_neg (by simpa using l1),h0,if_neg (by simp),←h0]
  exact pp_plain s hsz
 ·have hpos:0<s.data.toList.length:=List.length_pos_iff.2 h0
  have l1:(s.size:Int)>0:=by omega
  have l2:(0:Int)<(s.size:Int):=by omega
  have l3:(0:Int)≤(s.size:Int):=by omega
  have l4:(1:Int)≤(s.size:Int):=by omega
  have hb:byteAt s 0=(s.data.toList[0].toNat:Int):=congrArg (fun c:UInt8=>(c.toNat:Int)) (getD_cast s.data.toList 0 0 hpos)
  have hh:s.data.toList.head? =some s.data.toList[0]:=by
   generalize s.data.toList=l at*
   cases l with
   |nil=>simp at h0
   |cons c r=>rfl
  rw[if_pos (decide_eq_true l1),if_pos (decide_eq_true l2),hh,Int.toNat_natCast]
  by_cases c1:s.data.toList[0]=45
  ·have hn:(byteAt s 0==45)=true:=by
    rw[hb,c1]
    rfl
   have hx:(ByteArray.extract s 1 s.size).data.toList=s.data.toList.tail:=by
    rw[ext_list,List.take_of_length_le (by omega),List.drop_one]
   have hxs:(ByteArray.extract s 1 s.size).size≤1000000:=by
    have:(ByteArray.extract s 1 s.size).size=(ByteArray.extract s 1 s.size).data.toList.length:=by rw[Array.length_toList];rfl
    rw[this,hx]
    simp
    omega
   rw[hn,if_pos rfl,if_pos (decide_eq_true l3),if_pos (decide_eq_true (Int.le_refl _)),if_pos (decide_eq_true l4),if_pos (by rw[c1])]
   have:=pp_sign (ByteArray.extract s 1 s.size) true hxs
   rw[hx]at this
   exact this
  ·have hn:(byteAt s 0==45)=false:=by
    rw[hb,beq_eq_false_iff_ne]
    intro q
    apply c1
    apply UInt8.toNat_inj.1
    show _=45
    omega
   rw[hn,if_neg (show ¬((false:Bool)=true) by decide),if_neg (by rw[Option.some.injEq];exact c1)]
   exact pp_sign s false hsz
def P.s_l02Rate (k:Nat) (x:(ByteArray×Unit)):(Option ((RB×Bool)×Unit)):=
 (Option.bind (S.s_l01Parse (x.1,())) (fun(y0:((RB×Bool)×Unit))=>(if(y0.1.2=true)then(Option.bind (S.s_l01Zero ((y0.1.1.1,(y0.1.1.2.1,y0.1.1.2.2)),())) (fun(y1:(Bool×Unit))=>(if((!y1.1)=true)then(Option.bind (S.s_l01Neg ((y0.1.1.1,(y0.1.1.2.1,y0.1.1.2.2)),())) (fun(y2:(Bool×Unit))=>(some (((y0.1.1.1,(y0.1.1.2.1,y0.1.1.2.2)),(!y2.1)),()))))
 else(some (((y0.1.1.1,(y0.1.1.2.1,y0.1.1.2.2)),false),())))))
 else(some (((y0.1.1.1,(y0.1.1.2.1,y0.1.1.2.2)),false),())))))
def S.s_l02Rate (x:(ByteArray×Unit)):(Option ((RB×Bool)×Unit)):=if x.1.size≤1000000 then some ((rp B10 (posR x.1).1,(posR x.1).2),())else none
theorem S.s_l02Rate_ok (x:(ByteArray×Unit)) (r:_) (h:S.s_l02Rate x=some r):∃k,P.s_l02Rate k x=some r:=by
 obtain⟨s,u⟩:=x
 unfold S.s_l02Rate at h
 dsimp only at h
 split at h
 case isFalse=>cases h
 rename_i hc
 cases h
 refine⟨0,?_⟩
 unfold P.s_l02Rate S.s_l01Parse posR
 dsimp only
 rw[if_pos hc,Option.bind_some]
 dsimp only
 cases hf:(rdRat s.data.toList).2
 ·rfl
 ·rw[if_pos rfl]
  have hz:S.s_l01Zero (rp B10 (rdRat s.data.toList).1,())=some (decide ((rdRat s.data.toList).1.2.1=0),()):=by
   unfold S.s_l01Zero P.s_l01Zero rp
   dsimp only
   by_cases h:(rdRat s.data.toList).1.2.1=0
   ·rw[h,nd_zero B10_le]
    rfl
   ·simp [h]
    exact nd_ne B10_le h
  have hn:S.s_l01Neg (rp B10 (rdRat s.data.toList).1,())=some ((rdRat s.data.toList).1.1,()):=rfl
  show Option.bind (S.s_l01Zero (rp B10 (rdRat s.data.toList).1,())) _=_
  rw[hz,Option.bind_some]
  dsimp only
  unfold posQ
  by_cases h0:(rdRat s.data.toList).1.2.1=0
  ·simp [h0]
  ·rw[if_pos (by simpa using h0)]
   show Option.bind (S.s_l01Neg (rp B10 (rdRat s.data.toList).1,())) _=_
   rw[hn,Option.bind_some]
   simp [h0]
abbrev P.s_l01Dec_b0 (x1:((List Int)×(Int×(Int×Unit)))) (g2:((List Int)×(Int×(Int×Unit)))→Option (ByteArray×Unit)):Option (ByteArray×Unit):=
 (if((((List.length x1.1):Int)==(0:Int))=true)then(if((decide ((Int.tmod x1.2.1 (10:Int))<(0:Int)))=true)then(if((decide ((((List.length ((IntKind.wrap .u8 (IntKind.wrap .i64 ((48:Int)+(IntKind.wrap .i64 ((0:Int) - (Int.tmod x1.2.1 (10:Int)))))))::([]:List Int)))+(List.length x1.1))*(1:Nat))≤(140737488355328:Nat)))=true)then(g2 ((((IntKind.wrap .u8 (IntKind.wrap .i64 ((48:Int)+(IntKind.wrap .i64 ((0:Int) - (Int.tmod x1.2.1 (10:Int)))))))::([]:List Int))++x1.1),((IntKind.wrap .i64 (Int.tdiv x1.2.1 (10:Int))),(x1.2.2.1,()))))
 else none)
 else(if((decide ((((List.length ((IntKind.wrap .u8 (IntKind.wrap .i64 ((48:Int)+(Int.tmod x1.2.1 (10:Int)))))::([]:List Int)))+(List.length x1.1))*(1:Nat))≤(140737488355328:Nat)))=true)then(g2 ((((IntKind.wrap .u8 (IntKind.wrap .i64 ((48:Int)+(Int.tmod x1.2.1 (10:Int)))))::([]:List Int))++x1.1),((IntKind.wrap .i64 (Int.tdiv x1.2.1 (10:Int))),(x1.2.2.1,()))))
 else none))
 else(if((x1.2.1 != (0:Int))=true)then(if((decide ((Int.tmod x1.2.1 (10:Int))<(0:Int)))=true)then(if((decide ((((List.length ((IntKind.wrap .u8 (IntKind.wrap .i64 ((48:Int)+(IntKind.wrap .i64 ((0:Int) - (Int.tmod x1.2.1 (10:Int)))))))::([]:List Int)))+(List.length x1.1))*(1:Nat))≤(140737488355328:Nat)))=true)then(g2 ((((IntKind.wrap .u8 (IntKind.wrap .i64 ((48:Int)+(IntKind.wrap .i64 ((0:Int) - (Int.tmod x1.2.1 (10:Int)))))))::([]:List Int))++x1.1),((IntKind.wrap .i64 (Int.tdiv x1.2.1 (10:Int))),(x1.2.2.1,()))))
 else none)
 else(if((decide ((((List.length ((IntKind.wrap .u8 (IntKind.wrap .i64 ((48:Int)+(Int.tmod x1.2.1 (10:Int)))))::([]:List Int)))+(List.length x1.1))*(1:Nat))≤(140737488355328:Nat)))=true)then(g2 ((((IntKind.wrap .u8 (IntKind.wrap .i64 ((48:Int)+(Int.tmod x1.2.1 (10:Int)))))::([]:List Int))++x1.1),((IntKind.wrap .i64 (Int.tdiv x1.2.1 (10:Int))),(x1.2.2.1,()))))
 else none))
 else(if((decide (x1.2.2.1<(0:Int)))=true)then(if((decide ((((1:Nat)+(List.length x1.1))*(1:Nat))≤(140737488355328:Nat)))=true)then(some ((strOf (((45:Int)::([]:List Int))++x1.1)),()))
 else none)
 else(some ((strOf x1.1),())))))
def P.s_l01Dec (k:Nat) (x:(Int×Unit)):(Option (ByteArray×Unit)):=
 (loopP (X:=((List Int)×(Int×(Int×Unit)))) (R:=(ByteArray×Unit)) (P.s_l01Dec_b0) k (([]:List Int),(x.1,(x.1,()))))
def digI (u:Nat):List Int:=(Go.Lib.decDigits u).map fun b=>(b.toNat:Int)
theorem digI_small {u:Nat} (h:u<10):digI u=[48+(u:Int)]:=by
 unfold digI
 rw[Go.Lib.decDigits,dif_pos h]
 simp only[List.map_cons,List.map_nil,List.cons.injEq,and_true]
 rw[UInt8.toNat_ofNat']
 omega
theorem digI_step {u:Nat} (h:¬u<10):digI u=digI (u/10)++[48+((u%10:Nat):Int)]:=by
 unfold digI
 rw[Go.Lib.decDigits,dif_neg h,List.map_append]
 simp only[List.map_cons,List.map_nil]
 rw[UInt8.toNat_ofNat']
 congr 2
 omega
theorem digI_len (u:Nat):(digI u).length≤u+1:=by
 induction u using Nat.strongRecOn with
 |ind u ih=>
  by_cases h:u<10
  ·rw[digI_small h];simp
  ·rw[digI_step h,List.length_append]
   have:=ih (u/10) (by omega)
   simp
   omega
theorem strOf_map (l:List UInt8):strOf (l.map fun b=>(b.toNat:Int))=⟨l.toArray⟩:=by
 unfold strOf
 rw[List.map_map]
 have:((fun n:Int=>UInt8.ofNat n.toNat) ∘ fun b:UInt8=>(b.toNat:Int))=id:=by
  funext b
  simp
 rw[this,List.map_id]
theorem wr8 {x:Int} (h0:0≤x) (h1:x≤255):IntKind.wrap .u8 x=x:=by
 show x%256=x
 omega
def sgn (neg:Bool) (u:Nat):Int:=if neg=true then -(u:Int)else(u:Int)
theorem sgn_tmod (neg:Bool) (u:Nat):Int.tmod (sgn neg u) 10=sgn neg (u%10):=by
 cases neg
 ·show Int.tmod (u:Int) 10=((u%10:Nat):Int)
  rw[Int.tmod_eq_emod_of_nonneg (by omega)]
  omega
 ·show Int.tmod (-(u:Int)) 10= -((u%10:Nat):Int)
  rw[Int.neg_tmod,Int.tmod_eq_emod_of_nonneg (by omega)]
  omega
theorem sgn_tdiv (neg:Bool) (u:Nat):Int.tdiv (sgn neg u) 10=sgn neg (u/10):=by
 cases neg
 ·show Int.tdiv (u:Int) 10=((u/10:Nat):Int)
  rw[Int.tdiv_eq_ediv_of_nonneg (by omega)]
  omega
 ·show Int.tdiv (-(u:Int)) 10= -((u/10:Nat):Int)
  rw[Int.neg_tdiv,Int.tdiv_eq_ediv_of_nonneg (by omega)]
  omega
theorem dec_round (neg:Bool) (u:Nat) (n:Int) (out:List Int) (g:((List Int)×(Int×(Int×Unit)))→Option (ByteArray×Unit)) (hu:u≤9223372036854775808) (hs:neg=false→u≤9223372036854775807) (ho:out.length≤1000) (hc:out=[]∨u≠0):
  P.s_l01Dec_b0 (out,sgn neg u,n,()) g=g ((48+((u%10:Nat):Int))::out,sgn neg (u/10),n,()):=by
 have hw:IntKind.wrap .i64 (sgn neg (u/10))=sgn neg (u/10):=by
  apply wr<;>unfold sgn<;>split<;>omega
 have hA:∀(a b:Option (ByteArray×Unit)),(if((decide (sgn neg (u%10)<(0:Int)))=true)then a else b)=(if(sgn neg (u%10)<0)then a else b):=by
  intro a b
  by_cases h:sgn neg (u%10)<0<;>simp [h]
 have hneg:sgn neg (u%10)<0→IntKind.wrap .i64 ((0:Int) - sgn neg (u%10))=((u%10:Nat):Int):=by
  intro h
  unfold sgn at h ⊢
  split at h
  ·rename_i hn
   rw[if_pos hn,wr (by omega) (by omega)]
   omega
  ·omega
 have hpos:¬sgn neg (u%10)<0→sgn neg (u%10)=((u%10:Nat):Int):=by
  intro h
  unfold sgn at h ⊢
  split at h
  ·rename_i hn
   rw[if_pos hn]
   omega
  ·rename_i hn
   rw[if_neg hn]
 have hch:IntKind.wrap .u8 (IntKind.wrap .i64 ((48:Int)+((u%10:Nat):Int)))=48+((u%10:Nat):Int):=by
  rw[wr (by omega) (by omega),wr8 (by omega) (by omega)]
 have hlen:∀c:Int,((List.length (c::([]:List Int))+List.length out)*1≤140737488355328):=by
  intro c
  simp
  omega
 unfold P.s_l01Dec_b0
 dsimp only
 have hu0:u≠0→sgn neg u≠0:=by
  intro h
  unfold sgn
  split<;>omega
 simp only[hA,sgn_tmod,sgn_tdiv,hw]
 have hin:∀X Y:Option (ByteArray×Unit),(sgn neg (u%10)<0→X=g ((48+((u%10:Nat):Int))::out,sgn neg (u/10),n,()))→(¬sgn neg (u%10)<0→Y=g ((48+((u%10:Nat):Int))::out,sgn neg (u/10),n,()))→
   (if sgn neg (u%10)<0 then X else Y)=g ((48+((u%10:Nat):Int))::out,sgn neg (u/10),n,()):=by
  intro X Y h1 h2
  split
  ·exact h1 (by assumption)
  ·exact h2 (by assumption)
 have key:(if sgn neg (u%10)<0 then(if((decide (((List.length ((IntKind.wrap .u8 (IntKind.wrap .i64 ((48:Int)+(IntKind.wrap .i64 ((0:Int) - sgn neg (u%10))))))::([]:List Int))+(List.length out))*(1:Nat))≤(140737488355328:Nat)))=true)then(g ((((IntKind.wrap .u8 (IntKind.wrap .i64 ((48:Int)+(IntKind.wrap .i64 ((0:Int) - sgn neg (u%10))))))::([]:List Int))++out),(sgn neg (u/10),(n,()))))else none)
   else(if((decide (((List.length ((IntKind.wrap .u8 (IntKind.wrap .i64 ((48:Int)+sgn neg (u%10))))::([]:List Int))+(List.length out))*(1:Nat))≤(140737488355328:Nat)))=true)then(g ((((IntKind.wrap .u8 (IntKind.wrap .i64 ((48:Int)+sgn neg (u%10))))::([]:List Int))++out),(sgn neg (u/10),(n,()))))else none))=g ((48+((u%10:Nat):Int))::out,sgn neg (u/10),n,()):=by
  refine hin _ _ (fun h=> ?_) (fun h=> ?_)
  ·rw[if_pos (decide_eq_true (hlen _)),hneg h,hch]
   rfl
  ·rw[if_pos (decide_eq_true (hlen _)),hpos h,hch]
   rfl
 rcases hc with rfl|hc
 ·rw[if_pos (by rfl)]
  exact key
 ·by_cases ho':(((List.length out):Int)==(0:Int))=true
  ·rw[if_pos ho']
   exact key
  ·rw[if_neg ho',if_pos (by simpa using hu0 hc)]
   exact key
theorem dec_end (neg:Bool) (n:Int) (out:List Int) (g:((List Int)×(Int×(Int×Unit)))→Option (ByteArray×Unit)) (ho:out.length≤1000) (hc:out≠ []):
  P.s_l01Dec_b0 (out,sgn neg 0,n,()) g=some (strOf (if n<0 then 45::out else out),()):=by
 unfold P.s_l01Dec_b0
 dsimp only
 have h0:sgn neg 0=0:=by cases neg<;>rfl
 rw[if_neg (by simpa using hc),h0,if_neg (by decide)]
 by_cases hn:n<0
 ·rw[if_pos (decide_eq_true hn),if_pos (decide_eq_true (by omega)),if_pos hn]
  rfl
 ·rw[if_neg (by simpa using hn),if_neg hn]
theorem dec_loop (neg:Bool) (n:Int):∀(u:Nat) (out:List Int) (k:Nat),u≠0→u≤9223372036854775808→(neg=false→u≤9223372036854775807)→out.length+u.log2≤900→u.log2+2≤k→
  loopP P.s_l01Dec_b0 k (out,sgn neg u,n,())=some (strOf (if n<0 then 45::(digI u++out)else digI u++out),()):=by
 intro u
 induction u using Nat.strongRecOn with
 |ind u ih=>
  intro out k h0 hu hs ho hk
  obtain⟨k,rfl⟩:∃j,k=j+1:=⟨k - 1,by omega⟩
  rw[loopP_succ,dec_round neg u n out _ hu hs (by omega) (.inr h0)]
  by_cases h:u<10
  ·have e:u/10=0:=by omega
   obtain⟨k,rfl⟩:∃j,k=j+1:=⟨k - 1,by omega⟩
   rw[e,loopP_succ,dec_end neg n _ _ (by simp;omega) (by simp),digI_small h,Nat.mod_eq_of_lt h]
   rfl
  ·have hl:(u/10).log2+1≤u.log2:=by
    have h2:u/10≠0:=by omega
    have a1:2^(u/10).log2≤u/10:=Nat.log2_self_le h2
    have a2:2^((u/10).log2+1)≤u:=by rw[Nat.pow_succ];omega
    exact(Nat.le_log2 h0).2 a2
   rw[ih (u/10) (by omega) _ k (by omega) (by omega) (fun hn=>by have:=hs hn;omega) (by simp;omega) (by omega),digI_step h]
   simp
def S.s_l01Dec (x:(Int×Unit)):(Option (ByteArray×Unit)):=if -9223372036854775808≤x.1∧x.1≤9223372036854775807 then some (⟨(Go.Lib.itoa x.1).toArray⟩,())else none
theorem S.s_l01Dec_ok (x:(Int×Unit)) (r:_) (h:S.s_l01Dec x=some r):∃k,P.s_l01Dec k x=some r:=by
 obtain⟨n,u⟩:=x
 unfold S.s_l01Dec at h
 dsimp only at h
 split at h
 case isFalse=>cases h
 rename_i hn
 cases h
 refine⟨200,?_⟩
 unfold P.s_l01Dec
 dsimp only
 have hsg:∃neg,n=sgn neg n.natAbs∧(neg=true↔n<0):=by
  by_cases h:n<0
  ·exact⟨true,by unfold sgn;simp;omega,by simp [h]⟩
  ·exact⟨false,by unfold sgn;simp;omega,by simp [h]⟩
 obtain⟨neg,h1,h2⟩:=hsg
 have hfin:strOf (if n<0 then 45::digI n.natAbs else digI n.natAbs)=⟨(Go.Lib.itoa n).toArray⟩:=by
  unfold Go.Lib.itoa digI
  split
  ·rw[←strOf_map]
   rfl
  ·rw[←strOf_map]
   have:n.natAbs=n.toNat:=by omega
   rw[this]
 by_cases h0:n.natAbs=0
 ·have hn0:n=0:=by omega
  subst hn0
  have e0:(0:Int)=sgn false 0:=rfl
  show loopP P.s_l01Dec_b0 (198+1+1) ([],0,0,())=_
  rw[loopP_succ]
  conv=>lhs;rw[show(([]:List Int),(0:Int),(0:Int),())=([],sgn false 0,0,())from rfl]
  rw[dec_round false 0 0 [] _ (by omega) (by omega) (by simp) (.inl rfl),loopP_succ,show 0/10=0 from rfl,dec_end false 0 _ _ (by simp) (by simp),←hfin]
  rw[show(0:Int).natAbs=0 from rfl,digI_small (by omega)]
 ·have hb:n.natAbs≤9223372036854775808:=by omega
  have hl:n.natAbs.log2≤64:=by
   have:n.natAbs.log2<65:=(Nat.log2_lt h0).2 (by omega)
   omega
  have:=dec_loop neg n n.natAbs [] 200 h0 hb (fun hf=>by
   have:¬n<0:=fun h=>by rw[h2.2 h]at hf;cases hf
   omega) (by simp;omega) (by omega)
  rw[←h1]at this
  rw[this,List.append_nil,hfin]
abbrev P.s_l01NatText_b1 (x2:(Int×((List Int)×(ByteArray×Unit)))) (g3:(Int×((List Int)×(ByteArray×Unit)))→Option (ByteArray×Unit)):Option (ByteArray×Unit):=
 (if((decide (x2.1≥(0:Int)))=true)then(if((decide ((0:Int)≤x2.1))=true)then(if((decide (x2.1<((List.length x2.2.1):Int)))=true)then(Option.bind (S.s_l01Dec ((IntKind.wrap .i64 ((List.getD x2.2.1 (Int.toNat x2.1) (0:Int))+(1000000000:Int))),())) (fun(y4:(ByteArray×Unit))=>(if((decide ((0:Int)≤(((ByteArray.size y4.1):Nat):Int)))=true)then(if((decide ((((ByteArray.size y4.1):Nat):Int)≤(((ByteArray.size y4.1):Nat):Int)))=true)then(if((decide ((1:Int)≤(((ByteArray.size y4.1):Nat):Int)))=true)then(if((decide (((ByteArray.size x2.2.2.1)+(ByteArray.size (ByteArray.extract y4.1 (1:Nat) (Int.toNat (((ByteArray.size y4.1):Nat):Int)))))≤(9223372036854775807:Nat)))=true)then(g3 ((IntKind.wrap .i64 (x2.1 - (1:Int))),(x2.2.1,((x2.2.2.1++(ByteArray.extract y4.1 (1:Nat) (Int.toNat (((ByteArray.size y4.1):Nat):Int)))),()))))
 else none)
 else none)
 else none)
 else none)))
 else none)
 else none)
 else(some (x2.2.2.1,())))
def P.s_l01NatText (k:Nat) (x:((List Int)×Unit)):(Option (ByteArray×Unit)):=
 (if((((List.length x.1):Int)==(0:Int))=true)then(some ((bs [48]),()))
 else(if((decide ((0:Int)≤(IntKind.wrap .i64 (((List.length x.1):Int) - (1:Int)))))=true)then(if((decide ((IntKind.wrap .i64 (((List.length x.1):Int) - (1:Int)))<((List.length x.1):Int)))=true)then(Option.bind (S.s_l01Dec ((List.getD x.1 (Int.toNat (IntKind.wrap .i64 (((List.length x.1):Int) - (1:Int)))) (0:Int)),())) (fun(y0:(ByteArray×Unit))=>(loopP (X:=(Int×((List Int)×(ByteArray×Unit)))) (R:=(ByteArray×Unit)) (P.s_l01NatText_b1) k ((IntKind.wrap .i64 (((List.length x.1):Int) - (2:Int))),(x.1,(y0.1,()))))))
 else none)
 else none))
def S.s_l01NatText (x:((List Int)×Unit)):(Option (ByteArray×Unit)):=if canon B10 x.1=true∧x.1.length≤10000000 then some (⟨(Go.Lib.decDigits (dval B10 x.1)).toArray⟩,())else none
theorem S.s_l01NatText_ok (x:((List Int)×Unit)) (r:_) (h:S.s_l01NatText x=some r):∃k,P.s_l01NatText k x=some r:=by
 obtain⟨xs,u⟩:=x
 unfold S.s_l01NatText at h
 dsimp only at h
 split at h
 case isFalse=>cases h
 rename_i hc
 obtain⟨ca,la⟩:=hc
 cases h
 refine⟨xs.length+1,?_⟩
 unfold P.s_l01NatText
 dsimp only
 by_cases he:xs=[]
 ·subst he
  rw[if_pos (by rfl),show dval B10 []=0 from rfl,dec_small (by decide)]
  rfl
 ·have hpos:0<xs.length:=List.length_pos_iff.2 he
  obtain⟨m,hm⟩:∃m,xs.length=m+1:=⟨xs.length - 1,by omega⟩
  have dx:=canon_dig ca
  have h0:dval B10 xs≠0:=by
   intro q
   have:=canon_eq ca
   rw[q,nd_zero B10_le]at this
   exact he this.symm
  have hdec:∀z:Int,0≤z→z≤2000000000→S.s_l01Dec (z,())=some (⟨(Go.Lib.decDigits z.toNat).toArray⟩,()):=by
   intro z z0 z1
   unfold S.s_l01Dec
   dsimp only
   rw[if_pos ⟨by omega,by omega⟩]
   unfold Go.Lib.itoa
   rw[if_neg (by omega)]
  have hnz:∀i,i≤m→dval B10 (xs.drop i)≠0:=by
   intro i hi q
   have h1:=dval_append (B:=B10) (xs.take i) (xs.drop i)
   rw[List.take_append_drop,q,Nat.mul_zero,Nat.add_zero]at h1
   have h2:=dval_lt (dig_take dx i)
   have h3:(xs.take i).length=i:=by simp;omega
   rw[h3]at h2
   have h4:=nd_low B10_le h0
   rw[canon_eq ca,hm,Nat.add_sub_cancel]at h4
   have h5:B10^i≤B10^m:=Nat.pow_le_pow_right (by decide) hi
   omega
  have hlenD:∀i,(Go.Lib.decDigits (dval B10 (xs.drop i))).length≤9*xs.length:=by
   intro i
   have h1:=dval_lt (dig_drop dx i)
   have h2:B10^(xs.drop i).length≤B10^xs.length:=Nat.pow_le_pow_right (by decide) (by simp)
   rw[show B10=10^9 by decide,←Nat.pow_mul,←Nat.pow_mul]at h2
   rw[show B10^(xs.drop i).length=10^(9*(xs.drop i).length) by rw[show B10=10^9 by decide,←Nat.pow_mul]]at h1
   exact dec_len (by omega) (by omega)
  have c1:(0:Int)≤(m:Int):=by omega
  have c2:(m:Int)<((m+1:Nat):Int):=by omega
  rw[if_neg (by simp;exact he),hm,wr (x:=((m+1:Nat):Int) - 1) (by omega) (by omega),wr (x:=((m+1:Nat):Int) - 2) (by omega) (by omega),show((m+1:Nat):Int) - 1=(m:Int) by omega,if_pos (decide_eq_true c1),if_pos (decide_eq_true c2),Int.toNat_natCast]
  have gx:=dig_getD (B:=B10) (by decide) dx m
  have gx1:xs.getD m 0<1000000000:=gx.2
  rw[hdec _ gx.1 (by omega),Option.bind_some]
  have hlast:(xs.getD m 0).toNat=dval B10 (xs.drop m):=by
   rw[dval_drop (by omega),List.drop_of_length_le (by omega)]
   simp [dval]
  rw[hlast]
  have key:=loop_up0 (k:=m+1+1) (b:=P.s_l01NatText_b1) (n:=m) (st:=fun i=>((m:Int) - 1 - (i:Int),xs,(⟨(Go.Lib.decDigits (dval B10 (xs.drop (m - i)))).toArray⟩:ByteArray),())) (F:=fun i=>some (⟨(Go.Lib.decDigits (dval B10 xs)).toArray⟩,())) (fun i g hi hg=>by
   unfold P.s_l01NatText_b1
   dsimp only at hg ⊢
   obtain⟨j,hj⟩:∃j,m - i=j+1:=⟨m - i - 1,by omega⟩
   rw[show m - (i+1)=j by omega,show(m:Int) - 1 - ((i+1:Nat):Int)=(j:Int) - 1 by omega]at hg
   rw[hj,show(m:Int) - 1 - (i:Int)=(j:Int) by omega]
   have d1:(j:Int)≥0:=by omega
   have d2:(0:Int)≤(j:Int):=by omega
   have d3:(j:Int)<(xs.length:Int):=by omega
   have gx:=dig_getD (B:=B10) (by decide) dx j
   have gx1:xs.getD j 0<1000000000:=gx.2
   have gx0:=gx.1
   rw[if_pos (decide_eq_true d1),if_pos (decide_eq_true d2),if_pos (decide_eq_true d3),Int.toNat_natCast,wr (x:=xs.getD j 0+1000000000) (by omega) (by omega),hdec _ (by omega) (by omega),Option.bind_some]
   dsimp only
   obtain⟨z,hz⟩:∃z:Nat,xs.getD j 0=(z:Int):=⟨(xs.getD j 0).toNat,by omega⟩
   have hzl:z<10^9:=by rw[show(10:Nat)^9=1000000000 by decide];omega
   have e1:=nine_all z (xs.getD j 0) hz hzl
   rw[e1]
   have hs:(⟨(49::decPad 9 z).toArray⟩:ByteArray).size=10:=by rw[ba_sz,List.length_cons,decPad_len]
   have hx:ByteArray.extract ⟨(49::decPad 9 z).toArray⟩ 1 10=⟨(decPad 9 z).toArray⟩:=by
    apply ByteArray.ext
    rw[ByteArray.data_extract]
    have hl:(decPad 9 z).length=9:=decPad_len _ _
    simp [List.extract_toArray,List.take_of_length_le,hl]
   rw[hs]
   have f1:(0:Int)≤((10:Nat):Int):=by decide
   have f2:(1:Int)≤((10:Nat):Int):=by decide
   rw[if_pos (decide_eq_true f1),if_pos (decide_eq_true (Int.le_refl _)),if_pos (decide_eq_true f2),show(((10:Nat):Int)).toNat=10 from rfl,hx]
   have hl1:=hlenD (j+1)
   have f3:(⟨(Go.Lib.decDigits (dval B10 (xs.drop (j+1)))).toArray⟩:ByteArray).size+(⟨(decPad 9 z).toArray⟩:ByteArray).size≤9223372036854775807:=by
    rw[ba_sz,ba_sz,decPad_len]
    omega
   rw[if_pos (decide_eq_true f3),ba_app,wr (x:=(j:Int) - 1) (by omega) (by omega)]
   have e2:Go.Lib.decDigits (dval B10 (xs.drop (j+1)))++decPad 9 z=Go.Lib.decDigits (dval B10 (xs.drop j)):=by
    rw[dval_drop (xs:=xs) (i:=j) (by omega),hz,Int.toNat_natCast]
    generalize hD:dval B10 (xs.drop (j+1))=D
    have hD0:0<D:=by rw[←hD];exact Nat.pos_of_ne_zero (hnz (j+1) (by omega))
    have e3:z+B10*D=D*10^9+z:=by rw[Nat.add_comm,Nat.mul_comm]
    rw[e3,dec_split 9 D z hD0 hzl]
   rw[e2]
   exact hg) (fun g=>by
   unfold P.s_l01NatText_b1
   dsimp only
   rw[if_neg (by simp;omega),Nat.sub_self,List.drop_zero]) (by omega)
  rw[Nat.sub_zero,show(m:Int) - 1 - ((0:Nat):Int)=((m+1:Nat):Int) - 2 by omega]at key
  exact key
def P.s_l01Fits (k:Nat) (x:(RB×Unit)):(Option (Bool×Unit)):=
 (Option.bind (S.s_l01NatText (x.1.2.1,())) (fun(y0:(ByteArray×Unit))=>(if((decide ((((ByteArray.size y0.1):Nat):Int)≤(200:Int)))=true)then(Option.bind (S.s_l01NatText (x.1.2.2,())) (fun(y1:(ByteArray×Unit))=>(some ((decide ((((ByteArray.size y1.1):Nat):Int)≤(200:Int))),()))))
 else(some (false,())))))
def S.s_l01Fits (x:(RB×Unit)):(Option (Bool×Unit)):=P.s_l01Fits 0 x
theorem S.s_l01Fits_ok (x:(RB×Unit)) (r:_) (h:S.s_l01Fits x=some r):∃k,P.s_l01Fits k x=some r:=⟨0,h⟩
def P.s_l01Show (k:Nat) (x:(RB×Unit)):(Option (ByteArray×Unit)):=
 (Option.bind (S.s_l01NatText (x.1.2.1,())) (fun(y0:(ByteArray×Unit))=>(if(x.1.1=true)then(if((decide (((1:Nat)+(ByteArray.size y0.1))≤(9223372036854775807:Nat)))=true)then(Option.bind (S.s_l01Cmp (x.1.2.2,(((1:Int)::([]:List Int)),()))) (fun(y1:(Int×Unit))=>(if((y1.1 != (0:Int))=true)then(Option.bind (S.s_l01NatText (x.1.2.2,())) (fun(y2:(ByteArray×Unit))=>(if((decide (((1:Nat)+(ByteArray.size y2.1))≤(9223372036854775807:Nat)))=true)then(if((decide (((ByteArray.size ((bs [45])++y0.1))+(ByteArray.size ((bs [47])++y2.1)))≤(9223372036854775807:Nat)))=true)then(some ((((bs [45])++y0.1)++((bs [47])++y2.1)),()))
 else none)
 else none)))
 else(some (((bs [45])++y0.1),())))))
 else none)
 else(Option.bind (S.s_l01Cmp (x.1.2.2,(((1:Int)::([]:List Int)),()))) (fun(y3:(Int×Unit))=>(if((y3.1 != (0:Int))=true)then(Option.bind (S.s_l01NatText (x.1.2.2,())) (fun(y4:(ByteArray×Unit))=>(if((decide (((1:Nat)+(ByteArray.size y4.1))≤(9223372036854775807:Nat)))=true)then(if((decide (((ByteArray.size y0.1)+(ByteArray.size ((bs [47])++y4.1)))≤(9223372036854775807:Nat)))=true)then(some ((y0.1++((bs [47])++y4.1)),()))
 else none)
 else none)))
 else(some (y0.1,()))))))))
def S.s_l01Show (x:(RB×Unit)):(Option (ByteArray×Unit)):=P.s_l01Show 0 x
theorem S.s_l01Show_ok (x:(RB×Unit)) (r:_) (h:S.s_l01Show x=some r):∃k,P.s_l01Show k x=some r:=⟨0,h⟩
def P.s_l01Give (k:Nat) (x:(RB×Unit)):(Option ((ByteArray×Bool)×Unit)):=
 (Option.bind (S.s_l01Fits ((x.1.1,(x.1.2.1,x.1.2.2)),())) (fun(y0:(Bool×Unit))=>(if((!y0.1)=true)then(some (((bs []),false),()))
 else(Option.bind (S.s_l01Show ((x.1.1,(x.1.2.1,x.1.2.2)),())) (fun(y1:(ByteArray×Unit))=>(some ((y1.1,true),())))))))
def S.s_l01Give (x:(RB×Unit)):(Option ((ByteArray×Bool)×Unit)):=if rok B10 10000000 x.1=true then some (giveN (rv B10 x.1),())else none
theorem S.s_l01Give_ok (x:(RB×Unit)) (r:_) (h:S.s_l01Give x=some r):∃k,P.s_l01Give k x=some r:=by
 obtain⟨⟨neg,as,bs'⟩,u⟩:=x
 unfold S.s_l01Give at h
 dsimp only at h
 split at h
 case isFalse=>cases h
 rename_i hc
 cases h
 rw[rok_iff]at hc
 obtain⟨ca,cb,la,lb⟩:=hc
 dsimp only at ca cb la lb
 refine⟨0,?_⟩
 unfold P.s_l01Give S.s_l01Fits S.s_l01Show P.s_l01Fits P.s_l01Show
 dsimp only
 have e1:∀xs,canon B10 xs=true→xs.length≤10000000→S.s_l01NatText (xs,())=some (⟨(Go.Lib.decDigits (dval B10 xs)).toArray⟩,()):=by
  intro xs cx lx
  unfold S.s_l01NatText
  exact if_pos ⟨cx,lx⟩
 have e3:S.s_l01Cmp (bs',([1],()))=some (cmpN (dval B10 bs') 1,()):=by
  unfold S.s_l01Cmp
  dsimp only
  rw[if_pos ⟨cb,canon_one B10_le,by omega⟩,dval_one]
 rw[e1 as ca la,Option.bind_some,e1 bs' cb lb,Option.bind_some,e3,Option.bind_some]
 dsimp only
 have l1:=canon_dec (show B10≤10^10 by decide) ca
 have l2:=canon_dec (show B10≤10^10 by decide) cb
 unfold giveN rv ratTx fitN
 dsimp only
 generalize Go.Lib.decDigits (dval B10 as)=t1 at*
 generalize Go.Lib.decDigits (dval B10 bs')=t2 at*
 rw[show bs [45]=⟨([45]:List UInt8).toArray⟩from rfl,show bs [47]=⟨([47]:List UInt8).toArray⟩from rfl]
 simp only[Option.bind_some]
 rw[ba_app,ba_app,ba_app,ba_app,ba_sz,ba_sz,ba_sz,ba_sz]
 have c1:(1+t1.length≤9223372036854775807):=by omega
 have c2:(1+t2.length≤9223372036854775807):=by omega
 have c3:([45]++t1).length+([47]++t2).length≤9223372036854775807:=by simp;omega
 have c4:t1.length+([47]++t2).length≤9223372036854775807:=by simp;omega
 simp only[c1,c2,c3,c4,decide_true,if_true]
 have d1:∀t:List UInt8,decide (((t.length:Nat):Int)≤200)=decide (t.length≤200):=by
  intro t
  rw[decide_eq_decide]
  omega
 rw[d1,d1]
 have d2:((cmpN (dval B10 bs') 1 != 0)=true)↔¬dval B10 bs'=1:=by
  rw[←cmpN_zero (b:=1)]
  simp
 by_cases f1:t1.length≤200
 ·by_cases f2:t2.length≤200
  ·by_cases hq:dval B10 bs'=1
   ·have n2:¬((cmpN 1 1 != 0)=true):=by decide
    cases neg<;>simp only[f1,f2,n2,hq,decide_true,if_true,if_false,Bool.false_eq_true,List.append_nil,List.nil_append,Option.bind_some,Bool.not_true,Bool.and_true]
   ·have n2:((cmpN (dval B10 bs') 1 != 0)=true):=d2.2 hq
    cases neg<;>simp only[f1,f2,n2,hq,decide_true,if_true,if_false,Bool.false_eq_true,List.nil_append,Option.bind_some,Bool.not_true,Bool.and_true]<;>simp
  ·simp [f1,f2]
 ·simp [f1]
theorem rs_give {x:Q3} {m:Nat} (bx:below m x) (hm:m≤80000000):S.s_l01Give (rp B10 x,())=some (giveN x,()):=by
 unfold S.s_l01Give
 dsimp only
 rw[if_pos (below_rok9 (by decide) bx (by omega)),rv_rp B10_le]
abbrev P.s_l01GiveAll_b0 (x1:(Int×(Int×((List RB)×((List ByteArray)×Unit))))) (g2:(Int×(Int×((List RB)×((List ByteArray)×Unit))))→Option (((List ByteArray)×Bool)×Unit)):Option (((List ByteArray)×Bool)×Unit):=
 (if((decide (x1.1<x1.2.1))=true)then(if((decide ((0:Int)≤x1.1))=true)then(if((decide (x1.1<((List.length x1.2.2.1):Int)))=true)then(Option.bind (S.s_l01Give (((List.getD x1.2.2.1 (Int.toNat x1.1) (false,(([]:List Int),([]:List Int)))).1,((List.getD x1.2.2.1 (Int.toNat x1.1) (false,(([]:List Int),([]:List Int)))).2.1,(List.getD x1.2.2.1 (Int.toNat x1.1) (false,(([]:List Int),([]:List Int)))).2.2)),())) (fun(y3:((ByteArray×Bool)×Unit))=>(if((!y3.1.2)=true)then(some ((([]:List ByteArray),false),()))
 else(if((decide ((((List.length x1.2.2.2.1)+(List.length (y3.1.1::([]:List ByteArray))))*(16:Nat))≤(140737488355328:Nat)))=true)then(g2 ((IntKind.wrap .i64 (x1.1+(1:Int))),(x1.2.1,(x1.2.2.1,((x1.2.2.2.1++(y3.1.1::([]:List ByteArray))),())))))
 else none))))
 else none)
 else none)
 else(some ((x1.2.2.2.1,true),())))
def P.s_l01GiveAll (k:Nat) (x:((List RB)×Unit)):(Option (((List ByteArray)×Bool)×Unit)):=
 (loopP (X:=(Int×(Int×((List RB)×((List ByteArray)×Unit))))) (R:=(((List ByteArray)×Bool)×Unit)) (P.s_l01GiveAll_b0) k ((0:Int),(((List.length x.1):Int),(x.1,(([]:List ByteArray),())))))
def S.s_l01GiveAll (x:((List RB)×Unit)):(Option (((List ByteArray)×Bool)×Unit)):=if x.1.all (rok B10 10000000)=true∧x.1.length≤1000000 then some (giveL (x.1.map (rv B10)),())else none
theorem S.s_l01GiveAll_ok (x:((List RB)×Unit)) (r:_) (h:S.s_l01GiveAll x=some r):∃k,P.s_l01GiveAll k x=some r:=by
 obtain⟨xs,u⟩:=x
 unfold S.s_l01GiveAll at h
 dsimp only at h
 split at h
 case isFalse=>cases h
 rename_i hc
 cases h
 obtain⟨qs,rfl⟩:∃qs:List Q3,xs=qs.map (rp B10):=⟨xs.map (rv B10),by
  rw[List.map_map]
  have:∀ys:List (Bool×(List Int×List Int)),ys.all (rok B10 10000000)=true→ys.map (rp B10 ∘ rv B10)=ys:=by
   intro ys
   induction ys with
   |nil=>intro _;rfl
   |cons y ys ih=>
    intro hy
    rw[List.all_cons,Bool.and_eq_true]at hy
    rw[List.map_cons,ih hy.2]
    show rp B10 (rv B10 y)::ys=_
    rw[rp_rv hy.1]
  exact(this xs hc.1).symm⟩
 have hlen:=hc.2
 rw[List.length_map]at hlen
 refine⟨qs.length+1,?_⟩
 unfold P.s_l01GiveAll giveL
 dsimp only
 have key:=loop_up0 (k:=qs.length+1) (b:=P.s_l01GiveAll_b0) (n:=qs.length) (st:=fun i=>((i:Int),(qs.length:Int),qs.map (rp B10),(qs.take i).map (fun r:Q3=>(⟨(ratTx r).toArray⟩:ByteArray)),())) (F:=fun i=>some (if(qs.drop i).all fitN=true then(qs.map (fun r:Q3=>(⟨(ratTx r).toArray⟩:ByteArray)),true)else([],false),())) (fun i g hi hg'=>by
  unfold P.s_l01GiveAll_b0
  dsimp only at hg' ⊢
  have e1:(i:Int)<(qs.length:Int):=by omega
  have e2:(0:Int)≤(i:Int):=by omega
  have e3:(i:Int)<((qs.map (rp B10)).length:Int):=by rw[List.length_map];omega
  simp only[e1,e2,e3,decide_true,if_true]
  rw[getD_cast (qs.map (rp B10)) i _ (by rw[List.length_map];exact hi),List.getElem_map]
  have ht:S.s_l01Give (rp B10 qs[i],())=some (giveN qs[i],()):=by
   unfold S.s_l01Give
   dsimp only
   rw[if_pos (by have:=List.all_eq_true.1 hc.1 _ (List.mem_map.2 ⟨qs[i],List.getElem_mem hi,rfl⟩);exact this),rv_rp B10_le]
  show Option.bind (S.s_l01Give (rp B10 qs[i],())) _=_
  rw[ht,Option.bind_some,List.drop_eq_getElem_cons hi,List.all_cons]
  dsimp only
  cases hf:fitN qs[i]
  ·have hv:giveN qs[i]=(bs [],false):=by unfold giveN;rw[hf];rfl
   rw[hv,if_pos (by decide),Bool.false_and,if_neg (by decide)]
  ·have hv:giveN qs[i]=(⟨(ratTx qs[i]).toArray⟩,true):=by unfold giveN;rw[hf];rfl
   rw[hv]
   have e4:(((qs.take i).map (fun r:Q3=>(⟨(ratTx r).toArray⟩:ByteArray))).length+1)*16≤140737488355328:=by
    rw[List.length_map,List.length_take]
    omega
   rw[if_neg (by simp),wr (by omega) (by omega),Bool.true_and,←hg']
   simp only[List.length_cons,List.length_nil,Nat.zero_add]
   rw[if_pos (decide_eq_true e4),List.take_add_one,List.getElem?_eq_getElem hi,Option.toList_some,List.map_append]
   rfl) (fun g=>by
  unfold P.s_l01GiveAll_b0
  dsimp only
  rw[if_neg (by simp),List.take_length,List.drop_length]
  rfl) (by omega)
 rw[map_rv B10_le,List.length_map]
 refine key.trans ?_
 rw[List.drop_zero]
 by_cases ha:qs.all fitN=true
 ·rw[if_pos ha,if_pos ha]
  congr 3
  refine List.map_congr_left fun r hr=> ?_
  unfold giveN
  rw[if_pos (List.all_eq_true.1 ha r hr)]
 ·rw[if_neg ha,if_neg ha]
def P.s_l02Build (k:Nat) (x:((List RB)×((List RB)×Unit))):(Option ((((List ByteArray)×(List ByteArray))×Bool)×Unit)):=
 (Option.bind (S.s_l01GiveAll (x.1,())) (fun(y0:(((List ByteArray)×Bool)×Unit))=>(Option.bind (S.s_l01GiveAll (x.2.1,())) (fun(y1:(((List ByteArray)×Bool)×Unit))=>(if((!y0.1.2)=true)then(some (((([]:List ByteArray),([]:List ByteArray)),false),()))
 else(if((!y1.1.2)=true)then(some (((([]:List ByteArray),([]:List ByteArray)),false),()))
 else(some (((y0.1.1,y1.1.1),true),()))))))))
def S.s_l02Build (x:((List RB)×((List RB)×Unit))):(Option ((((List ByteArray)×(List ByteArray))×Bool)×Unit)):=if(x.1.all (rok B10 10000000)=true∧x.1.length≤1000000)∧(x.2.1.all (rok B10 10000000)=true∧x.2.1.length≤1000000)then some (giveP (x.1.map (rv B10)) (x.2.1.map (rv B10)),())else none
theorem S.s_l02Build_ok (x:((List RB)×((List RB)×Unit))) (r:_) (h:S.s_l02Build x=some r):∃k,P.s_l02Build k x=some r:=by
 obtain⟨xs,ys,u⟩:=x
 unfold S.s_l02Build at h
 dsimp only at h
 split at h
 case isFalse=>cases h
 rename_i hc
 cases h
 refine⟨0,?_⟩
 unfold P.s_l02Build S.s_l01GiveAll giveP
 dsimp only
 rw[if_pos hc.1,if_pos hc.2,Option.bind_some,Option.bind_some]
 dsimp only
 cases(giveL (xs.map (rv B10))).2
 ·rfl
 ·cases(giveL (ys.map (rv B10))).2<;>rfl
abbrev P.s_ServersLine_b4 (x5:(Int×(Int×((List RB)×(RB×((List RB)×(Int×(RB×(((List ByteArray)×(List ByteArray))×Unit))))))))) (g6:(Int×(Int×((List RB)×(RB×((List RB)×(Int×(RB×(((List ByteArray)×(List ByteArray))×Unit))))))))→Option ((((List ByteArray)×(List ByteArray))×Bool)×Unit)):Option ((((List ByteArray)×(List ByteArray))×Bool)×Unit):=
 (if((decide (x5.1<x5.2.1))=true)then(if((decide ((((List.length x5.2.2.1)+(List.length ((x5.2.2.2.1.1,(x5.2.2.2.1.2.1,x5.2.2.2.1.2.2))::([]:List RB))))*(56:Nat))≤(140737488355328:Nat)))=true)then(Option.bind (S.s_l00Min ((IntKind.wrap .i64 (x5.1+(1:Int))),(x5.2.2.2.2.2.1,()))) (fun(y7:(Int×Unit))=>(Option.bind (S.s_l01Int (y7.1,())) (fun(y8:(RB×Unit))=>(Option.bind (S.s_l01Times ((y8.1.1,(y8.1.2.1,y8.1.2.2)),((x5.2.2.2.2.2.2.1.1,(x5.2.2.2.2.2.2.1.2.1,x5.2.2.2.2.2.2.1.2.2)),()))) (fun(y9:(RB×Unit))=>(if((decide ((((List.length x5.2.2.2.2.1)+(List.length ((y9.1.1,(y9.1.2.1,y9.1.2.2))::([]:List RB))))*(56:Nat))≤(140737488355328:Nat)))=true)then(g6 ((IntKind.wrap .i64 (x5.1+(1:Int))),(x5.2.1,((x5.2.2.1++((x5.2.2.2.1.1,(x5.2.2.2.1.2.1,x5.2.2.2.1.2.2))::([]:List RB))),((x5.2.2.2.1.1,(x5.2.2.2.1.2.1,x5.2.2.2.1.2.2)),((x5.2.2.2.2.1++((y9.1.1,(y9.1.2.1,y9.1.2.2))::([]:List RB))),(x5.2.2.2.2.2.1,((x5.2.2.2.2.2.2.1.1,(x5.2.2.2.2.2.2.1.2.1,x5.2.2.2.2.2.2.1.2.2)),((x5.2.2.2.2.2.2.2.1.1,x5.2.2.2.2.2.2.2.1.2),())))))))))
 else none)))))))
 else none)
 else(Option.bind (S.s_l02Build (x5.2.2.1,(x5.2.2.2.2.1,()))) (fun(y10:((((List ByteArray)×(List ByteArray))×Bool)×Unit))=>(some (((y10.1.1.1,y10.1.1.2),y10.1.2),())))))
def P.s_ServersLine (k:Nat) (x:(ByteArray×(ByteArray×(Int×(Int×Unit))))):(Option ((((List ByteArray)×(List ByteArray))×Bool)×Unit)):=
 (Option.bind (S.s_l02Rate (x.1,())) (fun(y0:((RB×Bool)×Unit))=>(Option.bind (S.s_l02Rate (x.2.1,())) (fun(y1:((RB×Bool)×Unit))=>(if((!y0.1.2)=true)then(some (((([]:List ByteArray),([]:List ByteArray)),false),()))
 else(if((!y1.1.2)=true)then(some (((([]:List ByteArray),([]:List ByteArray)),false),()))
 else(Option.bind (S.s_l02Servers (x.2.2.1,())) (fun(y2:(Bool×Unit))=>(if((!y2.1)=true)then(some (((([]:List ByteArray),([]:List ByteArray)),false),()))
 else(Option.bind (S.s_l02Servers (x.2.2.2.1,())) (fun(y3:(Bool×Unit))=>(if((!y3.1)=true)then(some (((([]:List ByteArray),([]:List ByteArray)),false),()))
 else(loopP (X:=(Int×(Int×((List RB)×(RB×((List RB)×(Int×(RB×(((List ByteArray)×(List ByteArray))×Unit))))))))) (R:=((((List ByteArray)×(List ByteArray))×Bool)×Unit)) (P.s_ServersLine_b4) k ((0:Int),(x.2.2.2.1,(([]:List RB),((y0.1.1.1,(y0.1.1.2.1,y0.1.1.2.2)),(([]:List RB),(x.2.2.1,((y1.1.1.1,(y1.1.1.2.1,y1.1.1.2.2)),((([]:List ByteArray),([]:List ByteArray)),())))))))))))))))))))))
theorem servers_s' (z:Int):S.s_l02Servers (z,())=some (decide (1≤z∧z≤20),()):=by
 unfold S.s_l02Servers P.s_l02Servers S.s_l00In P.s_l00In
 dsimp only
 by_cases h:z≥1
 ·rw[if_pos (decide_eq_true h),Option.bind_some]
  dsimp only
  congr 2
  rw[decide_eq_decide]
  omega
 ·rw[if_neg (by simpa using h),Option.bind_some]
  dsimp only
  congr 2
  symm
  simpa using(show ¬(1≤z∧z≤20) by omega)
theorem min_s' (a b:Int):S.s_l00Min (a,(b,()))=some (minI a b,()):=by
 unfold S.s_l00Min P.s_l00Min minI
 dsimp only
 by_cases h:a<b
 ·rw[if_pos (decide_eq_true h),if_pos h]
 ·rw[if_neg (by simpa using h),if_neg h]
open Classical in
def S.s_ServersLine (x:(ByteArray×(ByteArray×(Int×(Int×Unit))))):(Option ((((List ByteArray)×(List ByteArray))×Bool)×Unit)):=if x.1.size≤1000000∧x.2.1.size≤1000000 then some (serversT x.1 x.2.1 x.2.2.1 x.2.2.2.1,())else none
theorem S.s_ServersLine_ok (x:(ByteArray×(ByteArray×(Int×(Int×Unit))))) (r:_) (h:S.s_ServersLine x=some r):∃k,P.s_ServersLine k x=some r:=by
 obtain⟨ar,se,servers,limit,u⟩:=x
 unfold S.s_ServersLine at h
 dsimp only at h
 split at h
 case isFalse=>cases h
 rename_i hc
 cases h
 refine⟨limit.toNat+1,?_⟩
 unfold P.s_ServersLine S.s_l02Rate serversT
 dsimp only
 rw[if_pos hc.1,if_pos hc.2,Option.bind_some,Option.bind_some]
 dsimp only
 have gt:=posR_ok (s:=ar)
 have gs:=posR_ok (s:=se)
 cases ft:(posR ar).2
 ·rfl
 cases fs:(posR se).2
 ·rfl
 obtain⟨tl,tb,tp⟩:=gt ft
 obtain⟨sl,sb,sp⟩:=gs fs
 generalize (posR ar).1=t at*
 generalize (posR se).1=s at*
 simp only[Bool.not_true,Bool.false_eq_true,if_false,Bool.true_and]
 have ein:∀z:Int,S.s_l02Servers (z,())=some (decide (1≤z∧z≤20),()):=servers_s'
 rw[ein servers,ein limit]
 simp only[Option.bind_some]
 by_cases h1:1≤servers∧servers≤20
 case neg=>
  rw[decide_eq_false h1]
  rfl
 by_cases h2:1≤limit∧limit≤20
 case neg=>
  rw[decide_eq_false h2,decide_eq_true h1]
  rfl
 rw[decide_eq_true h1,decide_eq_true h2]
 simp only[Bool.not_true,Bool.false_eq_true,if_false,Bool.and_self,if_true]
 obtain⟨M,rfl⟩:∃M:Nat,limit=(M:Int):=⟨limit.toNat,by omega⟩
 rw[Int.toNat_natCast]
 have key:=loop_up0 (k:=M+1) (b:=P.s_ServersLine_b4) (n:=M) (st:=fun i=>((i:Int),(M:Int),List.replicate i (rp B10 t),rp B10 t,(List.range i).map (fun j:Nat=>rp B10 (mulQ s (wholeQ (minI ((j:Int)+1) servers)))),servers,rp B10 s,(([]:List ByteArray),([]:List ByteArray)),())) (F:=fun i=>some (giveP (List.replicate M t) (srvL s servers M),())) (fun i g hi hg'=>by
  unfold P.s_ServersLine_b4
  dsimp only at hg' ⊢
  have e1:(i:Int)<(M:Int):=by omega
  have hm:=minI_range (a:=(i:Int)+1) (by omega) h1.1 h1.2
  have e4:((List.replicate i (rp B10 t)).length+1)*56≤140737488355328:=by
   rw[List.length_replicate]
   omega
  have e5:(((List.range i).map (fun j:Nat=>rp B10 (mulQ s (wholeQ (minI ((j:Int)+1) servers))))).length+1)*56≤140737488355328:=by
   rw[List.length_map,List.length_range]
   omega
  simp only[List.length_cons,List.length_nil,Nat.zero_add]
  rw[if_pos (decide_eq_true e1),if_pos (decide_eq_true e4),wr (x:=(i:Int)+1) (by omega) (by omega),min_s',Option.bind_some]
  dsimp only
  rw[rs_int (by omega) (by omega),Option.bind_some]
  show Option.bind (S.s_l01Times (rp B10 (wholeQ (minI ((i:Int)+1) servers)),(rp B10 s,()))) _=_
  rw[rs_mul (wholeQ_low _) (whole20_below (by omega) (by omega)) sl sb (by decide) (by decide),Option.bind_some]
  dsimp only
  rw[if_pos (decide_eq_true e5),←hg',range_snoc,List.replicate_succ',mulQ_comm (wholeQ _) s]
  rfl) (fun g=>by
  unfold P.s_ServersLine_b4
  dsimp only
  have ed:(List.range M).map (fun j:Nat=>rp B10 (mulQ s (wholeQ (minI ((j:Int)+1) servers))))=(srvL s servers M).map (rp B10):=by
   unfold srvL
   rw[List.map_map]
   rfl
  have el:S.s_l02Build ((List.replicate M t).map (rp B10),((srvL s servers M).map (rp B10),()))=some (giveP (List.replicate M t) (srvL s servers M),()):=by
   unfold S.s_l02Build
   dsimp only
   rw[if_pos ⟨⟨all_rok (n:=200) (by decide) (by decide) (fun q hq=>by rw[(List.mem_replicate.1 hq).2];exact⟨tl,tb⟩),by simp;omega⟩,all_rok (n:=202) (by decide) (by decide) (srvL_ok sl sb h1.1 h1.2 M),by unfold srvL;simp;omega⟩,map_rv B10_le,map_rv B10_le]
  rw[if_neg (by simp),ed,←List.map_replicate,el,Option.bind_some]) (by omega)
 exact key
def P.math_bits_Mul64 (k:Nat) (x:(Int×(Int×Unit))):(Option ((Int×Int)×Unit)):=
 (some (((IntKind.wrap .u64 ((IntKind.wrap .u64 ((IntKind.wrap .u64 ((Int.fdiv x.1 (4294967296:Int))*(Int.fdiv x.2.1 (4294967296:Int))))+(Int.fdiv (IntKind.wrap .u64 ((IntKind.wrap .u64 ((Int.fdiv x.1 (4294967296:Int))*(IntKind.wrap .u64 (((BitVec.toNat ((BitVec.ofInt 64 x.2.1)&&& (BitVec.ofInt 64 (4294967295:Int)))):Nat):Int))))+(Int.fdiv (IntKind.wrap .u64 ((IntKind.wrap .u64 (((BitVec.toNat ((BitVec.ofInt 64 x.1)&&& (BitVec.ofInt 64 (4294967295:Int)))):Nat):Int))*(IntKind.wrap .u64 (((BitVec.toNat ((BitVec.ofInt 64 x.2.1)&&& (BitVec.ofInt 64 (4294967295:Int)))):Nat):Int)))) (4294967296:Int)))) (4294967296:Int))))+(Int.fdiv (IntKind.wrap .u64 ((IntKind.wrap .u64 (((BitVec.toNat ((BitVec.ofInt 64 (IntKind.wrap .u64 ((IntKind.wrap .u64 ((Int.fdiv x.1 (4294967296:Int))*(IntKind.wrap .u64 (((BitVec.toNat ((BitVec.ofInt 64 x.2.1)&&& (BitVec.ofInt 64 (4294967295:Int)))):Nat):Int))))+(Int.fdiv (IntKind.wrap .u64 ((IntKind.wrap .u64 (((BitVec.toNat ((BitVec.ofInt 64 x.1)&&& (BitVec.ofInt 64 (4294967295:Int)))):Nat):Int))*(IntKind.wrap .u64 (((BitVec.toNat ((BitVec.ofInt 64 x.2.1)&&& (BitVec.ofInt 64 (4294967295:Int)))):Nat):Int)))) (4294967296:Int)))))&&& (BitVec.ofInt 64 (4294967295:Int)))):Nat):Int))+(IntKind.wrap .u64 ((IntKind.wrap .u64 (((BitVec.toNat ((BitVec.ofInt 64 x.1)&&& (BitVec.ofInt 64 (4294967295:Int)))):Nat):Int))*(Int.fdiv x.2.1 (4294967296:Int)))))) (4294967296:Int)))),(IntKind.wrap .u64 (x.1*x.2.1))),()))
def S.math_bits_Mul64 (x:(Int×(Int×Unit))):(Option ((Int×Int)×Unit)):=P.math_bits_Mul64 0 x
theorem S.math_bits_Mul64_ok (x:(Int×(Int×Unit))) (r:_) (h:S.math_bits_Mul64 x=some r):∃k,P.math_bits_Mul64 k x=some r:=⟨0,h⟩
def P.math_bits_Mul (k:Nat) (x:(Int×(Int×Unit))):(Option ((Int×Int)×Unit)):=
 (Option.bind (S.math_bits_Mul64 (x.1,(x.2.1,()))) (fun(y0:((Int×Int)×Unit))=>(some ((y0.1.1,y0.1.2),()))))
def S.math_bits_Mul (x:(Int×(Int×Unit))):(Option ((Int×Int)×Unit)):=P.math_bits_Mul 0 x
theorem S.math_bits_Mul_ok (x:(Int×(Int×Unit))) (r:_) (h:S.math_bits_Mul x=some r):∃k,P.math_bits_Mul k x=some r:=⟨0,h⟩
abbrev P.slices_Repeat__i_rat_i_rat_b1 (x2:(Int×((List RB)×Unit))) (g3:(Int×((List RB)×Unit))→Option ((List RB)×Unit)):Option ((List RB)×Unit):=
 (if((decide (x2.1<((List.length x2.2.1):Int)))=true)then(if((decide ((0:Int)≤((List.length x2.2.1):Int)))=true)then(if((decide ((((List.length x2.2.1):Int)+(0:Int))≤((List.length x2.2.1):Int)))=true)then(if((decide ((0:Int)≤x2.1))=true)then(if((decide (x2.1≤((List.length x2.2.1):Int)))=true)then(if((decide ((0:Int)≤x2.1))=true)then(if((decide ((x2.1+(0:Int))≤((List.length x2.2.1):Int)))=true)then(if((decide ((0:Int)≤x2.1))=true)then(g3 ((IntKind.wrap .i64 (x2.1+(((Min.min (List.length (seen x2.2.1 (0:Nat) ((Int.toNat x2.1) - (0:Nat)))) ((Int.toNat ((List.length x2.2.1):Int)) - (Int.toNat x2.1))):Nat):Int))),((splice x2.2.1 (List.take ((Int.toNat ((List.length x2.2.1):Int)) - (Int.toNat x2.1)) (seen x2.2.1 (0:Nat) ((Int.toNat x2.1) - (0:Nat)))) ((0:Nat)+(Int.toNat x2.1))),())))
 else none)
 else none)
 else none)
 else none)
 else none)
 else none)
 else none)
 else(some (x2.2.1,())))
def P.slices_Repeat__i_rat_i_rat (k:Nat) (x:((List RB)×(Int×Unit))):(Option ((List RB)×Unit)):=
 (if((decide (x.2.1<(0:Int)))=true)then none
 else(Option.bind (S.math_bits_Mul ((IntKind.wrap .u64 ((List.length x.1):Int)),((IntKind.wrap .u64 x.2.1),()))) (fun(y0:((Int×Int)×Unit))=>(if((decide (y0.1.1>(0:Int)))=true)then none
 else(if((decide (y0.1.2>(9223372036854775807:Int)))=true)then none
 else(if((decide ((0:Int)≤(IntKind.wrap .i64 y0.1.2)))=true)then(if((decide ((IntKind.wrap .i64 y0.1.2)≤(IntKind.wrap .i64 y0.1.2)))=true)then(if((decide (((IntKind.wrap .i64 y0.1.2)*(56:Int))≤(281474976710656:Int)))=true)then(loopP (X:=(Int×((List RB)×Unit))) (R:=((List RB)×Unit)) (P.slices_Repeat__i_rat_i_rat_b1) k ((((Min.min (List.length x.1) (List.length (List.replicate (Int.toNat (IntKind.wrap .i64 y0.1.2)) (false,(([]:List Int),([]:List Int)))))):Nat):Int),((splice (List.replicate (Int.toNat (IntKind.wrap .i64 y0.1.2)) (false,(([]:List Int),([]:List Int)))) (List.take (List.length (List.replicate (Int.toNat (IntKind.wrap .i64 y0.1.2)) (false,(([]:List Int),([]:List Int))))) x.1) (0:Nat)),())))
 else none)
 else none)
 else none))))))
def PP.slices_Repeat__i_rat_i_rat (k:Nat) (x:((List RB)×(Int×Unit))):(Option ((List RB)×Unit)):=
 (Decidable.rec (motive:=fun _=>(Option ((List RB)×Unit))) (fun _=>(Option.bind (S.math_bits_Mul ((IntKind.wrap .u64 ((List.length x.1):Int)),((IntKind.wrap .u64 x.2.1),()))) (fun(y0:((Int×Int)×Unit))=>(Decidable.rec (motive:=fun _=>(Option ((List RB)×Unit))) (fun _=>(Decidable.rec (motive:=fun _=>(Option ((List RB)×Unit))) (fun _=>(Decidable.rec (motive:=fun _=>(Option ((List RB)×Unit))) (fun _=>none) (fun _=>(Decidable.rec (motive:=fun _=>(Option ((List RB)×Unit))) (fun _=>none) (fun _=>(Decidable.rec (motive:=fun _=>(Option ((List RB)×Unit))) (fun _=>none) (fun _=>(loopP (X:=(Int×((List RB)×Unit))) (R:=((List RB)×Unit)) (P.slices_Repeat__i_rat_i_rat_b1) k ((((Min.min (List.length x.1) (List.length (List.replicate (Int.toNat (IntKind.wrap .i64 y0.1.2)) (false,(([]:List Int),([]:List Int)))))):Nat):Int),((splice (List.replicate (Int.toNat (IntKind.wrap .i64 y0.1.2)) (false,(([]:List Int),([]:List Int)))) (List.take (List.length (List.replicate (Int.toNat (IntKind.wrap .i64 y0.1.2)) (false,(([]:List Int),([]:List Int))))) x.1) (0:Nat)),())))) (instDecidableEqBool (decide (((IntKind.wrap .i64 y0.1.2)*(56:Int))≤(281474976710656:Int))) true))) (instDecidableEqBool (decide ((IntKind.wrap .i64 y0.1.2)≤(IntKind.wrap .i64 y0.1.2))) true))) (instDecidableEqBool (decide ((0:Int)≤(IntKind.wrap .i64 y0.1.2))) true))) (fun _=>none) (instDecidableEqBool (decide (y0.1.2>(9223372036854775807:Int))) true))) (fun _=>none) (instDecidableEqBool (decide (y0.1.1>(0:Int))) true))))) (fun _=>none) (instDecidableEqBool (decide (x.2.1<(0:Int))) true))
theorem PP.slices_Repeat__i_rat_i_rat_eq (k:Nat) (x:((List RB)×(Int×Unit))):PP.slices_Repeat__i_rat_i_rat k x=P.slices_Repeat__i_rat_i_rat k x:=rfl
theorem mul_one_bits:∀n:Fin 21,S.math_bits_Mul (1,((n.val:Int),()))=some ((0,(n.val:Int)),()):=by decide
def S.slices_Repeat__i_rat_i_rat (x:((List RB)×(Int×Unit))):(Option ((List RB)×Unit)):=if x.1.length=1∧0≤x.2.1∧x.2.1≤20 then some (List.replicate x.2.1.toNat (x.1.getD 0 (false,([],[]))),())else none
theorem S.slices_Repeat__i_rat_i_rat_ok (x:((List RB)×(Int×Unit))) (r:_) (h:S.slices_Repeat__i_rat_i_rat x=some r):∃k,P.slices_Repeat__i_rat_i_rat k x=some r:=by
 obtain⟨xs,m,u⟩:=x
 unfold S.slices_Repeat__i_rat_i_rat at h
 dsimp only at h
 split at h
 case isFalse=>cases h
 rename_i hc
 cases h
 obtain⟨hx,h1,h2⟩:=hc
 obtain⟨a,rfl⟩:∃a,xs=[a]:=by
  match xs,hx with
  | [a],_=>exact⟨a,rfl⟩
 obtain⟨M,rfl⟩:∃M:Nat,m=(M:Int):=⟨m.toNat,by omega⟩
 rw[Int.toNat_natCast]
 refine⟨M+2,?_⟩
 unfold P.slices_Repeat__i_rat_i_rat
 dsimp only
 have hmul:=mul_one_bits ⟨M,by omega⟩
 dsimp only at hmul
 have e0:IntKind.wrap .u64 (M:Int)=(M:Int):=IntWalk.u64_in _ (by omega)
 rw[if_neg (by simp),e0]
 show Option.bind (S.math_bits_Mul (1,((M:Int),()))) _=_
 rw[hmul,Option.bind_some]
 dsimp only
 rw[if_neg (show ¬((decide ((0:Int)>0))=true) by simp),if_neg (by simpa using(show ¬(M:Int)>9223372036854775807 by omega)),wr (by omega) (by omega),if_pos (decide_eq_true (show(0:Int)≤(M:Int) by omega)),if_pos (by simp),if_pos (decide_eq_true (show(M:Int)*56≤281474976710656 by omega)),Int.toNat_natCast]
 simp only[List.length_replicate,List.length_cons,List.length_nil,Nat.zero_add]
 have key:∀(d j k:Nat),j+d=M→1≤j→d<k→loopP P.slices_Repeat__i_rat_i_rat_b1 k ((j:Int),List.replicate j a++List.replicate d (false,(([]:List Int),([]:List Int))),())=some (List.replicate M a,()):=by
  intro d
  induction d using Nat.strongRecOn with
  |ind d ih=>
   intro j k hj h1 hk
   cases k with
   |zero=>omega
   |succ k=>
    rw[loopP_succ]
    unfold P.slices_Repeat__i_rat_i_rat_b1
    have hlen:(List.replicate j a++List.replicate d (false,(([]:List Int),([]:List Int)))).length=M:=by simp;omega
    dsimp only
    rw[hlen]
    by_cases hd:d=0
    ·subst hd
     rw[if_neg (by simpa using(show ¬(j:Int)<(M:Int) by omega))]
     rw[show j=M by omega]
     simp
    ·have c1:(j:Int)<(M:Int):=by omega
     have c2:(0:Int)≤(M:Int):=by omega
     have c3:(M:Int)+0≤(M:Int):=by omega
     have c4:(0:Int)≤(j:Int):=by omega
     have c5:(j:Int)≤(M:Int):=by omega
     have c6:(j:Int)+0≤(M:Int):=by omega
     simp only[c1,c2,c3,c4,c5,c6,decide_true,if_true]
     have hs:seen (List.replicate j a++List.replicate d (false,(([]:List Int),([]:List Int)))) 0 ((j:Int).toNat - 0)=List.replicate j a:=by
      unfold seen
      rw[Int.toNat_natCast,Nat.sub_zero,List.drop_zero,List.take_left' (by simp)]
     rw[hs,List.length_replicate,Int.toNat_natCast,Int.toNat_natCast]
     have hsp:splice (List.replicate j a++List.replicate d (false,(([]:List Int),([]:List Int)))) (List.take (M - j) (List.replicate j a)) (0+j)=List.replicate (j+min j d) a++List.replicate (d - min j d) (false,(([]:List Int),([]:List Int))):=by
      unfold splice
      rw[Nat.zero_add,List.take_left' (by simp),List.take_replicate,List.length_replicate,show M - j=d by omega,List.drop_append]
      simp only[List.length_replicate]
      rw[List.drop_of_length_le (by simp),List.nil_append,List.drop_replicate,←List.replicate_append_replicate,show j+min d j - j=min d j by omega,Nat.min_comm d j]
     rw[hsp,show M - j=d by omega,wr (by omega) (by omega)]
     have:=ih (d - min j d) (by omega) (j+min j d) k (by omega) (by omega) (by omega)
     rw[←this]
     congr 2
 match M,h2 with
 |0,_=>
  rfl
 |M+1,h2=>
  have:=key M 1 (M+1+2) (by omega) (by omega) (by omega)
  have a1:min 1 (M+1)=1:=by omega
  have a2:splice (List.replicate (M+1) (false,(([]:List Int),([]:List Int)))) (List.take (M+1) [a]) 0=List.replicate 1 a++List.replicate M (false,(([]:List Int),([]:List Int))):=by
   unfold splice
   simp [List.replicate_succ]
  rw[a1,a2]
  exact this
def P.i_in (k:Nat) (x:(Int×(Int×(Int×Unit)))):(Option (Bool×Unit)):=
 (if((decide (x.1≥x.2.1))=true)then(some ((decide (x.1≤x.2.2.1)),()))
 else(some (false,())))
def S.i_in (x:(Int×(Int×(Int×Unit)))):(Option (Bool×Unit)):=P.i_in 0 x
theorem S.i_in_ok (x:(Int×(Int×(Int×Unit)))) (r:_) (h:S.i_in x=some r):∃k,P.i_in k x=some r:=⟨0,h⟩
def P.i_rat_sign (k:Nat) (x:(RB×Unit)):(Option (Int×Unit)):=
 (if((((List.length x.1.2.1):Int)==(0:Int))=true)then(some ((0:Int),()))
 else(if(x.1.1=true)then(some ((-1:Int),()))
 else(some ((1:Int),()))))
def S.i_rat_sign (x:(RB×Unit)):(Option (Int×Unit)):=if canon B32 x.1.2.1=true then some (sgnQ x.1.1 (dval B32 x.1.2.1),())else none
theorem S.i_rat_sign_ok (x:(RB×Unit)) (r:_) (h:S.i_rat_sign x=some r):∃k,P.i_rat_sign k x=some r:=by
 obtain⟨⟨n,as,bs⟩,u⟩:=x
 unfold S.i_rat_sign at h
 dsimp only at h
 split at h
 case isFalse=>cases h
 rename_i ca
 cases h
 refine⟨0,?_⟩
 unfold P.i_rat_sign sgnQ
 dsimp only
 have h:=canon_nil B32_le ca
 by_cases h0:as=[]
 ·rw[if_pos (h.1 h0),h0,if_pos (by rfl)]
 ·rw[if_neg (fun q=>h0 (h.2 q)),if_neg (by simpa using h0)]
  cases n<;>rfl
def S.strings_Cut (x:(ByteArray×(ByteArray×Unit))):(Option ((ByteArray×(ByteArray×Bool))×Unit)):=if x.1.size<4294967281 then some ((⟨(Go.Lib.cut x.1.data.toList x.2.1.data.toList).1.toArray⟩,(⟨(Go.Lib.cut x.1.data.toList x.2.1.data.toList).2.1.toArray⟩,(Go.Lib.cut x.1.data.toList x.2.1.data.toList).2.2)),())else none
def S.strings_CutPrefix (x:(ByteArray×(ByteArray×Unit))):(Option ((ByteArray×Bool)×Unit)):=some ((⟨(Go.Lib.trimPrefix x.1.data.toList x.2.1.data.toList).toArray⟩,Go.Lib.hasPrefix x.1.data.toList x.2.1.data.toList),())
abbrev P.i_nat_trim_b0 (x1:((List Int)×Unit)) (g2:((List Int)×Unit)→Option ((List Int)×Unit)):Option ((List Int)×Unit):=
 (if((decide (((List.length x1.1):Int)>(0:Int)))=true)then(if((decide ((0:Int)≤(IntKind.wrap .i64 (((List.length x1.1):Int) - (1:Int)))))=true)then(if((decide ((IntKind.wrap .i64 (((List.length x1.1):Int) - (1:Int)))<((List.length x1.1):Int)))=true)then(if(((List.getD x1.1 (Int.toNat (IntKind.wrap .i64 (((List.length x1.1):Int) - (1:Int)))) (0:Int))==(0:Int))=true)then(if((decide ((0:Int)≤(IntKind.wrap .i64 (((List.length x1.1):Int) - (1:Int)))))=true)then(if((decide ((IntKind.wrap .i64 (((List.length x1.1):Int) - (1:Int)))≤((List.length x1.1):Int)))=true)then(if((decide ((0:Int)≤(IntKind.wrap .i64 (((List.length x1.1):Int) - (1:Int)))))=true)then(g2 ((seen x1.1 (0:Nat) ((Int.toNat (IntKind.wrap .i64 (((List.length x1.1):Int) - (1:Int)))) - (0:Nat))),()))
 else none)
 else none)
 else none)
 else(some (x1.1,())))
 else none)
 else none)
 else(some (x1.1,())))
def P.i_nat_trim (k:Nat) (x:((List Int)×Unit)):(Option ((List Int)×Unit)):=
 (loopP (X:=((List Int)×Unit)) (R:=((List Int)×Unit)) (P.i_nat_trim_b0) k (x.1,()))
theorem trim_loop (n:Nat):∀(xs:List Int) (k:Nat),xs.length=n→n<k→n≤1000000000000→dig B32 xs=true→loopP (X:=((List Int)×Unit)) (R:=((List Int)×Unit)) P.i_nat_trim_b0 k (xs,())=some (nd B32 (dval B32 xs),()):=by
 induction n with
 |zero=>
  intro xs k hx hk _ _
  have:xs=[]:=List.eq_nil_of_length_eq_zero hx
  subst this
  obtain⟨k,rfl⟩:∃j,k=j+1:=⟨k - 1,by omega⟩
  rw[loopP_succ]
  unfold P.i_nat_trim_b0
  rw[if_neg (by simp)]
  rw[show dval B32 []=0 from rfl,nd_zero B32_le]
 |succ n ih=>
  intro xs k hx hk hn hd
  obtain⟨k,rfl⟩:∃j,k=j+1:=⟨k - 1,by omega⟩
  rw[loopP_succ]
  unfold P.i_nat_trim_b0
  dsimp only
  have e0:IntKind.wrap .i64 ((xs.length:Int) - 1)=(n:Int):=by rw[wr (by omega) (by omega)];omega
  have e1:(xs.length:Int)>0:=by omega
  have e2:(0:Int)≤(n:Int):=by omega
  have e3:(n:Int)<(xs.length:Int):=by omega
  have e4:(n:Int)≤(xs.length:Int):=by omega
  rw[e0]
  simp only[e1,e2,e3,e4,decide_true,if_true]
  rw[getD_cast xs n _ (by omega)]
  have hs:=take_snoc xs n hx
  have hdt:dig B32 (xs.take n++[xs[n]])=true:=by rw[←hs];exact hd
  by_cases hz:xs[n]=0
  ·rw[if_pos (by simp [hz])]
   have e5:seen xs 0 ((n:Int).toNat - 0)=xs.take n:=by simp [seen]
   rw[e5]
   have hdt':=hdt
   rw[dig_append,Bool.and_eq_true]at hdt'
   rw[ih (xs.take n) k (by simp;omega) (by omega) (by omega) hdt'.1]
   have:dval B32 xs=dval B32 (xs.take n):=by
    conv=>lhs;rw[hs,hz]
    exact dval_snoc_zero _
   rw[this]
  ·rw[if_neg (by simp [hz])]
   have:=nd_snoc B32_le (xs.take n) xs[n] hdt hz
   rw[←hs]at this
   rw[this]
def S.i_nat_trim (x:((List Int)×Unit)):(Option ((List Int)×Unit)):=if dig B32 x.1=true∧x.1.length≤1000000000000 then some (nd B32 (dval B32 x.1),())else none
theorem S.i_nat_trim_ok (x:((List Int)×Unit)) (r:_) (h:S.i_nat_trim x=some r):∃k,P.i_nat_trim k x=some r:=by
 obtain⟨xs,u⟩:=x
 unfold S.i_nat_trim at h
 dsimp only at h
 split at h
 case isFalse=>cases h
 rename_i hc
 cases h
 exact⟨xs.length+1,trim_loop xs.length xs _ rfl (by omega) hc.2 hc.1⟩
theorem trim_i (xs:List Int) (h:dig B32 xs=true) (hl:xs.length≤1000000000000):S.i_nat_trim (xs,())=some (nd B32 (dval B32 xs),()):=by
 unfold S.i_nat_trim
 dsimp only
 rw[if_pos ⟨h,hl⟩]
def P.i_natOf (k:Nat) (x:(Int×Unit)):(Option ((List Int)×Unit)):=
 (Option.bind (S.i_nat_trim (((IntKind.wrap .u32 x.1)::((IntKind.wrap .u32 (Int.fdiv x.1 (4294967296:Int)))::([]:List Int))),())) (fun(y0:((List Int)×Unit))=>(some (y0.1,()))))
def S.i_natOf (x:(Int×Unit)):(Option ((List Int)×Unit)):=if 0≤x.1∧x.1<18446744073709551616 then some (nd B32 x.1.toNat,())else none
theorem S.i_natOf_ok (x:(Int×Unit)) (r:_) (h:S.i_natOf x=some r):∃k,P.i_natOf k x=some r:=by
 obtain⟨n,u⟩:=x
 unfold S.i_natOf at h
 dsimp only at h
 split at h
 case isFalse=>cases h
 rename_i hc
 cases h
 refine⟨0,?_⟩
 unfold P.i_natOf
 dsimp only
 have hf:Int.fdiv n 4294967296=n/4294967296:=Int.fdiv_eq_ediv_of_nonneg _ (by omega)
 rw[hf,u32_mod n hc.1,u32_mod _ (by omega)]
 have hd:dig B32 [n%4294967296,n/4294967296%4294967296]=true:=by
  rw[dig_cons,dig_cons]
  refine⟨⟨by omega,?_⟩,⟨by omega,?_⟩,rfl⟩
  ·show _<(4294967296:Int);omega
  ·show _<(4294967296:Int);omega
 rw[trim_i _ hd (by simp),Option.bind_some]
 have:dval B32 [n%4294967296,n/4294967296%4294967296]=n.toNat:=by
  simp only[dval]
  show(n%4294967296).toNat+4294967296*((n/4294967296%4294967296).toNat+4294967296*0)=n.toNat
  omega
 rw[this]
abbrev P.i_nat_cmp_b0 (x1:(Int×((List Int)×((List Int)×Unit)))) (g2:(Int×((List Int)×((List Int)×Unit)))→Option (Int×Unit)):Option (Int×Unit):=
 (if((decide (x1.1≥(0:Int)))=true)then(if((decide ((0:Int)≤x1.1))=true)then(if((decide (x1.1<((List.length x1.2.1):Int)))=true)then(if((decide ((0:Int)≤x1.1))=true)then(if((decide (x1.1<((List.length x1.2.2.1):Int)))=true)then(if(((List.getD x1.2.1 (Int.toNat x1.1) (0:Int)) != (List.getD x1.2.2.1 (Int.toNat x1.1) (0:Int)))=true)then(if((decide ((0:Int)≤x1.1))=true)then(if((decide (x1.1<((List.length x1.2.1):Int)))=true)then(if((decide ((0:Int)≤x1.1))=true)then(if((decide (x1.1<((List.length x1.2.2.1):Int)))=true)then(if((decide ((List.getD x1.2.1 (Int.toNat x1.1) (0:Int))<(List.getD x1.2.2.1 (Int.toNat x1.1) (0:Int))))=true)then(some ((-1:Int),()))
 else(some ((1:Int),())))
 else none)
 else none)
 else none)
 else none)
 else(g2 ((IntKind.wrap .i64 (x1.1 - (1:Int))),(x1.2.1,(x1.2.2.1,())))))
 else none)
 else none)
 else none)
 else none)
 else(some ((0:Int),())))
def P.i_nat_cmp (k:Nat) (x:((List Int)×((List Int)×Unit))):(Option (Int×Unit)):=
 (if((((List.length x.1):Int) != ((List.length x.2.1):Int))=true)then(if((decide (((List.length x.1):Int)<((List.length x.2.1):Int)))=true)then(some ((-1:Int),()))
 else(some ((1:Int),())))
 else(loopP (X:=(Int×((List Int)×((List Int)×Unit)))) (R:=(Int×Unit)) (P.i_nat_cmp_b0) k ((IntKind.wrap .i64 (((List.length x.1):Int) - (1:Int))),(x.1,(x.2.1,())))))
def S.i_nat_cmp (x:((List Int)×((List Int)×Unit))):(Option (Int×Unit)):=if canon B32 x.1=true∧canon B32 x.2.1=true∧x.1.length≤1000000000000 then some (cmpN (dval B32 x.1) (dval B32 x.2.1),())else none
theorem S.i_nat_cmp_ok (x:((List Int)×((List Int)×Unit))) (r:_) (h:S.i_nat_cmp x=some r):∃k,P.i_nat_cmp k x=some r:=by
 obtain⟨xs,ys,u⟩:=x
 unfold S.i_nat_cmp at h
 dsimp only at h
 split at h
 case isFalse=>cases h
 rename_i hc
 obtain⟨cx,cy,hl⟩:=hc
 cases h
 refine⟨xs.length+1,?_⟩
 unfold P.i_nat_cmp
 dsimp only
 by_cases hn:xs.length=ys.length
 ·rw[if_neg (by simp [hn]),wr (by omega) (by omega)]
  have key:=loop_up0 (k:=xs.length+1) (b:=P.i_nat_cmp_b0) (n:=xs.length) (st:=fun j=>((xs.length:Int) - 1 - (j:Int),xs,ys,())) (F:=fun j=>some (cmpN (dval B32 (xs.take (xs.length - j))) (dval B32 (ys.take (xs.length - j))),())) (fun j g hj hg=>by
   unfold P.i_nat_cmp_b0
   dsimp only at hg ⊢
   have e1:(xs.length:Int) - 1 - (j:Int)≥0:=by omega
   have e3:(0:Int)≤(xs.length:Int) - 1 - (j:Int):=by omega
   have e4:(xs.length:Int) - 1 - (j:Int)<(xs.length:Int):=by omega
   have e4':(xs.length:Int) - 1 - (j:Int)<(ys.length:Int):=by omega
   simp only[e1,e4,e4',decide_true,if_true]
   have hi:xs.length - (j+1)<xs.length:=by omega
   have hi':xs.length - (j+1)<ys.length:=by omega
   have e5:(xs.length:Int) - 1 - (j:Int)=((xs.length - (j+1):Nat):Int):=by omega
   have e6:xs.length - j=(xs.length - (j+1))+1:=by omega
   rw[e5,getD_cast xs _ _ hi,getD_cast ys _ _ hi',e6]
   generalize xs.length - (j+1)=i at*
   by_cases hq:xs[i]=ys[i]
   ·rw[if_neg (by simp [hq]),wr (by omega) (by omega)]
    have e7:((i:Nat):Int) - 1=(xs.length:Int) - 1 - ((j+1:Nat):Int):=by omega
    rw[e7,hg,←List.take_append_getElem hi,←List.take_append_getElem hi',dval_append,dval_append,hq]
    have hlx:(xs.take i).length=i:=by simp;omega
    have hly:(ys.take i).length=i:=by simp;omega
    rw[hlx,hly]
    unfold cmpN
    simp only[Nat.add_lt_add_iff_right]
   ·rw[if_pos (by simp [hq])]
    by_cases hlt:xs[i]<ys[i]
    ·have:=dval_top xs ys i hi hi' (canon_dig cx) (canon_dig cy) hlt
     rw[if_pos (decide_eq_true hlt),cmpN,if_pos this]
    ·have:=dval_top ys xs i hi' hi (canon_dig cy) (canon_dig cx) (by omega)
     rw[if_neg (by simpa using hlt),cmpN,if_neg (by omega),if_pos this]) (fun g=>by
   unfold P.i_nat_cmp_b0
   dsimp only
   rw[if_neg (by simp;omega),Nat.sub_self,List.take_zero,List.take_zero]
   rfl) (by omega)
  rw[show(xs.length:Int) - 1 - ((0:Nat):Int)=(xs.length:Int) - 1 by omega,Nat.sub_zero,List.take_length,List.take_of_length_le (by omega)]at key
  exact key
 ·rw[if_pos (by simp;omega)]
  by_cases hlt:xs.length<ys.length
  ·rw[if_pos (decide_eq_true (by omega)),cmpN,if_pos (canon_small B32_le cx cy hlt)]
  ·have:=canon_small B32_le cy cx (by omega)
   rw[if_neg (by simp;omega),cmpN,if_neg (by omega),if_pos this]
abbrev P.i_nat_small_b0 (x1:(Int×((List Int)×(Int×Unit)))) (g2:(Int×((List Int)×(Int×Unit)))→Option ((Int×Bool)×Unit)):Option ((Int×Bool)×Unit):=
 (if((decide (x1.1≥(0:Int)))=true)then(if((decide (((List.length x1.2.1):Int)≤(2:Int)))=true)then(if((decide ((0:Int)≤x1.1))=true)then(if((decide (x1.1<((List.length x1.2.1):Int)))=true)then(g2 ((IntKind.wrap .i64 (x1.1 - (1:Int))),(x1.2.1,((IntKind.wrap .u64 ((IntKind.wrap .u64 (x1.2.2.1*(4294967296:Int)))+(IntKind.wrap .u64 (List.getD x1.2.1 (Int.toNat x1.1) (0:Int))))),()))))
 else none)
 else none)
 else(some ((x1.2.2.1,(decide (((List.length x1.2.1):Int)≤(2:Int)))),())))
 else(some ((x1.2.2.1,(decide (((List.length x1.2.1):Int)≤(2:Int)))),())))
def P.i_nat_small (k:Nat) (x:((List Int)×Unit)):(Option ((Int×Bool)×Unit)):=
 (loopP (X:=(Int×((List Int)×(Int×Unit)))) (R:=((Int×Bool)×Unit)) (P.i_nat_small_b0) k ((IntKind.wrap .i64 (((List.length x.1):Int) - (1:Int))),(x.1,((0:Int),()))))
def S.i_nat_small (x:((List Int)×Unit)):(Option ((Int×Bool)×Unit)):=if dig B32 x.1=true∧x.1.length≤1000000000000 then some ((if x.1.length≤2 then((dval B32 x.1:Nat):Int)else 0,decide (x.1.length≤2)),())else none
theorem S.i_nat_small_ok (x:((List Int)×Unit)) (r:_) (h:S.i_nat_small x=some r):∃k,P.i_nat_small k x=some r:=by
 obtain⟨xs,u⟩:=x
 unfold S.i_nat_small at h
 dsimp only at h
 split at h
 case isFalse=>cases h
 rename_i hc
 obtain⟨hd,hl⟩:=hc
 cases h
 by_cases h2:xs.length≤2
 ·refine⟨xs.length+1,?_⟩
  unfold P.i_nat_small
  dsimp only
  rw[if_pos h2,decide_eq_true h2,wr (by omega) (by omega)]
  have key:=loop_up0 (k:=xs.length+1) (b:=P.i_nat_small_b0) (n:=xs.length) (st:=fun j=>((xs.length:Int) - 1 - (j:Int),xs,((dval B32 (xs.drop (xs.length - j)):Nat):Int),())) (F:=fun j=>some ((((dval B32 xs:Nat):Int),true),())) (fun j g hj hg=>by
   unfold P.i_nat_small_b0
   dsimp only at hg ⊢
   have e1:(xs.length:Int) - 1 - (j:Int)≥0:=by omega
   have e2:(xs.length:Int)≤2:=by omega
   have e3:(0:Int)≤(xs.length:Int) - 1 - (j:Int):=by omega
   have e4:(xs.length:Int) - 1 - (j:Int)<(xs.length:Int):=by omega
   simp only[e1,e2,e4,decide_true,if_true]
   have hi:xs.length - (j+1)<xs.length:=by omega
   have e5:(xs.length:Int) - 1 - (j:Int)=((xs.length - (j+1):Nat):Int):=by omega
   rw[e5,getD_cast xs _ _ hi]
   have e6:xs.drop (xs.length - (j+1))=xs[xs.length - (j+1)]::xs.drop (xs.length - j):=by
    rw[List.drop_eq_getElem_cons hi]
    congr 2
    omega
   have hx:=dig_get hd hi
   have hv:dval B32 (xs.drop (xs.length - j))<B32^1:=by
    have hdd:dig B32 (xs.drop (xs.length - j))=true:=by
     have:=List.take_append_drop (xs.length - j) xs
     rw[←this,dig_append,Bool.and_eq_true]at hd
     exact hd.2
    have:=dval_lt hdd
    have hp:B32^(xs.drop (xs.length - j)).length≤B32^1:=Nat.pow_le_pow_right (by decide) (by simp;omega)
    omega
   have hv':dval B32 (xs.drop (xs.length - j))<4294967296:=hv
   have hx':xs[xs.length - (j+1)]<4294967296:=hx.2
   rw[e6]at hg
   rw[←hg,wr (by omega) (by omega),wu (x:=(dval B32 (xs.drop (xs.length - j)):Int)*4294967296) (by omega) (by omega),wu (x:=xs[xs.length - (j+1)]) (by omega) (by omega),wu (by omega) (by omega)]
   congr 1
   simp only[Prod.mk.injEq,dval]
   refine⟨by omega,trivial,?_,trivial⟩
   show _=(((xs[xs.length - (j+1)]).toNat+4294967296*dval B32 (xs.drop (xs.length - j)):Nat):Int)
   omega) (fun g=>by
   unfold P.i_nat_small_b0
   dsimp only
   rw[if_neg (by simp;omega),Nat.sub_self,List.drop_zero,decide_eq_true (by omega)]) (by omega)
  have e0:dval B32 (xs.drop (xs.length - 0))=0:=by rw[Nat.sub_zero,List.drop_length];rfl
  rw[show(xs.length:Int) - 1 - ((0:Nat):Int)=(xs.length:Int) - 1 by omega,e0]at key
  exact key
 ·refine⟨1,?_⟩
  unfold P.i_nat_small
  rw[loopP_succ]
  unfold P.i_nat_small_b0
  dsimp only
  rw[wr (by omega) (by omega),if_pos (decide_eq_true (by omega)),if_neg (by simp;omega),if_neg h2,decide_eq_false h2,decide_eq_false (by omega)]
def S.math_bits_LeadingZeros32 (x:(Int×Unit)):(Option (Int×Unit)):=if 0≤x.1∧x.1≤4294967295 then some (32 - (Go.Lib.bitLen x.1.toNat:Int),())else none
abbrev P.i_nat_divSmall_b0 (x1:(Int×(Int×((List Int)×((List Int)×(Int×Unit)))))) (g2:(Int×(Int×((List Int)×((List Int)×(Int×Unit)))))→Option (((List Int)×Int)×Unit)):Option (((List Int)×Int)×Unit):=
 (if((decide (x1.1≥(0:Int)))=true)then(if((decide ((0:Int)≤x1.1))=true)then(if((decide (x1.1<((List.length x1.2.2.1):Int)))=true)then(if((decide ((IntKind.wrap .u64 x1.2.2.2.2.1)=(0:Int)))=true)then none
 else(if((decide ((0:Int)≤x1.1))=true)then(if((decide (x1.1<((List.length x1.2.2.2.1):Int)))=true)then(if((decide ((IntKind.wrap .u64 x1.2.2.2.2.1)=(0:Int)))=true)then none
 else(g2 ((IntKind.wrap .i64 (x1.1 - (1:Int))),((Int.tmod (IntKind.wrap .u64 ((IntKind.wrap .u64 (x1.2.1*(4294967296:Int)))+(IntKind.wrap .u64 (List.getD x1.2.2.1 (Int.toNat x1.1) (0:Int))))) (IntKind.wrap .u64 x1.2.2.2.2.1)),(x1.2.2.1,((List.set x1.2.2.2.1 ((0:Nat)+(Int.toNat x1.1)) (IntKind.wrap .u32 (IntKind.wrap .u64 (Int.tdiv (IntKind.wrap .u64 ((IntKind.wrap .u64 (x1.2.1*(4294967296:Int)))+(IntKind.wrap .u64 (List.getD x1.2.2.1 (Int.toNat x1.1) (0:Int))))) (IntKind.wrap .u64 x1.2.2.2.2.1))))),(x1.2.2.2.2.1,())))))))
 else none)
 else none))
 else none)
 else none)
 else(Option.bind (S.i_nat_trim (x1.2.2.2.1,())) (fun(y3:((List Int)×Unit))=>(some ((y3.1,(IntKind.wrap .u32 x1.2.1)),())))))
def P.i_nat_divSmall (k:Nat) (x:((List Int)×(Int×Unit))):(Option (((List Int)×Int)×Unit)):=
 (if((decide ((0:Int)≤((List.length x.1):Int)))=true)then(if((decide (((List.length x.1):Int)≤((List.length x.1):Int)))=true)then(if((decide ((((List.length x.1):Int)*(4:Int))≤(281474976710656:Int)))=true)then(loopP (X:=(Int×(Int×((List Int)×((List Int)×(Int×Unit)))))) (R:=(((List Int)×Int)×Unit)) (P.i_nat_divSmall_b0) k ((IntKind.wrap .i64 (((List.length x.1):Int) - (1:Int))),((0:Int),(x.1,((List.replicate (Int.toNat ((List.length x.1):Int)) (0:Int)),(x.2.1,()))))))
 else none)
 else none)
 else none)
def S.i_nat_divSmall (x:((List Int)×(Int×Unit))):(Option (((List Int)×Int)×Unit)):=if dig B32 x.1=true∧0<x.2.1∧x.2.1<4294967296∧x.1.length≤1000000000000 then some ((nd B32 (dval B32 x.1/x.2.1.toNat),((dval B32 x.1%x.2.1.toNat:Nat):Int)),())else none
theorem S.i_nat_divSmall_ok (x:((List Int)×(Int×Unit))) (r:_) (h:S.i_nat_divSmall x=some r):∃k,P.i_nat_divSmall k x=some r:=by
 obtain⟨xs,b,u⟩:=x
 unfold S.i_nat_divSmall at h
 dsimp only at h
 split at h
 case isFalse=>cases h
 rename_i hc
 obtain⟨hd,hb0,hb1,hl⟩:=hc
 cases h
 refine⟨xs.length+1,?_⟩
 unfold P.i_nat_divSmall
 dsimp only
 have a1:(0:Int)≤(xs.length:Int):=by omega
 have a2:(xs.length:Int)≤(xs.length:Int):=by omega
 have a3:(xs.length:Int)*4≤281474976710656:=by omega
 simp only[a1,a2,a3,decide_true,if_true]
 rw[wr (by omega) (by omega),Int.toNat_natCast]
 have hdr:∀m,dig B32 (xs.drop m)=true:=by
  intro m
  have:=List.take_append_drop m xs
  have hd':=hd
  rw[←this,dig_append,Bool.and_eq_true]at hd'
  exact hd'.2
 have hbN:0<b.toNat:=by omega
 have key:=loop_up0 (k:=xs.length+1) (b:=P.i_nat_divSmall_b0) (n:=xs.length) (st:=fun j=>((xs.length:Int) - 1 - (j:Int),((qdiv B32 b.toNat (xs.drop (xs.length - j))).2:Int),xs,List.replicate (xs.length - j) (0:Int)++(qdiv B32 b.toNat (xs.drop (xs.length - j))).1,b,())) (F:=fun j=>some ((nd B32 (dval B32 xs/b.toNat),((dval B32 xs%b.toNat:Nat):Int)),())) (fun j g hj hg=>by
  unfold P.i_nat_divSmall_b0
  dsimp only at hg ⊢
  obtain⟨q1,q2,q3,q4⟩:=qdiv_ok B32 b.toNat hbN (xs.drop (xs.length - j)) (hdr _)
  have hi:xs.length - (j+1)<xs.length:=by omega
  have e5:(xs.length:Int) - 1 - (j:Int)=((xs.length - (j+1):Nat):Int):=by omega
  have e6:xs.drop (xs.length - (j+1))=xs[xs.length - (j+1)]::xs.drop (xs.length - j):=by
   rw[List.drop_eq_getElem_cons hi]
   congr 2
   omega
  have e7:xs.length - j=(xs.length - (j+1))+1:=by omega
  have hlen:(List.replicate (xs.length - j) (0:Int)++(qdiv B32 b.toNat (xs.drop (xs.length - j))).1).length=xs.length:=by
   rw[List.length_append,List.length_replicate,q2,List.length_drop];omega
  have hx:=dig_get hd hi
  have hx1:xs[xs.length - (j+1)]<4294967296:=hx.2
  have hx0:=hx.1
  have hm:(qdiv B32 b.toNat (xs.drop (xs.length - j))).2<b.toNat:=by rw[q4];exact Nat.mod_lt _ hbN
  rw[e6]at hg
  rw[hlen,e5,getD_cast xs _ _ hi]
  have a1:((xs.length - (j+1):Nat):Int)≥0:=by omega
  have a2:(0:Int)≤((xs.length - (j+1):Nat):Int):=by omega
  have a3:((xs.length - (j+1):Nat):Int)<(xs.length:Int):=by omega
  rw[wu (x:=b) (by omega) (by omega)]
  have a4:¬(b=0):=by omega
  simp only[a1,a3,a4,decide_true,decide_false,if_true,if_false,Bool.false_eq_true]
  generalize hR:(qdiv B32 b.toNat (xs.drop (xs.length - j))).2=R at*
  generalize hX:xs[xs.length - (j+1)]=X at*
  have hRX:(R:Int)*4294967296+X<b*4294967296:=by omega
  rw[wu (x:=(R:Int)*4294967296) (by omega) (by omega),wu (x:=X) (by omega) (by omega),wu (x:=(R:Int)*4294967296+X) (by omega) (by omega)]
  have eT:Int.tdiv ((R:Int)*4294967296+X) b=(((R*B32+X.toNat)/b.toNat:Nat):Int):=by
   rw[Int.tdiv_eq_ediv_of_nonneg (by omega)]
   have:(R:Int)*4294967296+X=((R*4294967296+X.toNat:Nat):Int):=by omega
   rw[this]
   have hb:b=((b.toNat:Nat):Int):=by omega
   conv=>lhs;rw[hb]
   exact(Int.natCast_ediv _ _).symm
  have eM:Int.tmod ((R:Int)*4294967296+X) b=(((R*B32+X.toNat)%b.toNat:Nat):Int):=by
   rw[Int.tmod_eq_emod_of_nonneg (by omega)]
   have:(R:Int)*4294967296+X=((R*4294967296+X.toNat:Nat):Int):=by omega
   rw[this]
   have hb:b=((b.toNat:Nat):Int):=by omega
   conv=>lhs;rw[hb]
   exact(Int.natCast_emod _ _).symm
  have hQ:(R*B32+X.toNat)/b.toNat<B32:=(Nat.div_lt_iff_lt_mul hbN).2 (by
   show R*4294967296+X.toNat<4294967296*b.toNat
   omega)
  have hQ':(R*B32+X.toNat)/b.toNat<4294967296:=hQ
  have z0:(0:Int)≤(((R*B32+X.toNat)/b.toNat:Nat):Int):=Int.natCast_nonneg _
  have z1:(((R*B32+X.toNat)/b.toNat:Nat):Int)<4294967296:=Int.ofNat_lt.2 hQ'
  rw[eT,eM,wu z0 (Int.lt_trans z1 (by decide)),w32 z0 z1,wr (x:=((xs.length - (j+1):Nat):Int) - 1) (by omega) (by omega),Nat.zero_add,Int.toNat_natCast]
  have hset:∀(Q:List Int) (v:Int),(List.replicate (xs.length - j) (0:Int)++Q).set (xs.length - (j+1)) v=List.replicate (xs.length - (j+1)) 0++v::Q:=by
   intro Q v
   rw[e7]
   exact set_back _ _ _
  rw[hset,←hg]
  congr 1
  simp only[Prod.mk.injEq,qdiv]
  rw[hR]
  and_intros<;>first|rfl|omega|trivial) (fun g=>by
  unfold P.i_nat_divSmall_b0
  dsimp only
  obtain⟨q1,q2,q3,q4⟩:=qdiv_ok B32 b.toNat hbN xs hd
  rw[if_neg (by simp;omega),Nat.sub_self,List.drop_zero,List.replicate_zero,List.nil_append,trim_i _ q1 (by omega),Option.bind_some,q3,q4]
  have hm:=Nat.mod_lt (dval B32 xs) hbN
  rw[w32 (by omega) (by omega)]) (by omega)
 rw[show(xs.length:Int) - 1 - ((0:Nat):Int)=(xs.length:Int) - 1 by omega,Nat.sub_zero,List.drop_length]at key
 simpa [qdiv]using key
abbrev P.i_nat_shifted_b0 (x1:(Int×(Int×((List Int)×(Int×((List Int)×Unit)))))) (g2:(Int×(Int×((List Int)×(Int×((List Int)×Unit)))))→Option ((List Int)×Unit)):Option ((List Int)×Unit):=
 (if((decide (x1.1<x1.2.1))=true)then(if((decide ((0:Int)≤x1.1))=true)then(if((decide (x1.1<((List.length x1.2.2.1):Int)))=true)then(if((decide (x1.2.2.2.1<(0:Int)))=true)then none
 else(if((decide ((0:Int)≤x1.1))=true)then(if((decide (x1.1<((List.length x1.2.2.2.2.1):Int)))=true)then(if((decide ((0:Int)≤x1.1))=true)then(if((decide (x1.1<((List.length x1.2.2.2.2.1):Int)))=true)then(if((decide ((0:Int)≤(IntKind.wrap .i64 (x1.1+(1:Int)))))=true)then(if((decide ((IntKind.wrap .i64 (x1.1+(1:Int)))<((List.length (List.set x1.2.2.2.2.1 ((0:Nat)+(Int.toNat x1.1)) (IntKind.wrap .u32 (((BitVec.toNat ((BitVec.ofInt 32 (List.getD x1.2.2.2.2.1 ((0:Nat)+(Int.toNat x1.1)) (0:Int)))|||(BitVec.ofInt 32 (IntKind.wrap .u32 (IntKind.wrap .u64 ((IntKind.wrap .u64 (List.getD x1.2.2.1 (Int.toNat x1.1) (0:Int)))*((2:Int)^(Min.min (Int.toNat x1.2.2.2.1) 64)))))))):Nat):Int)))):Int)))=true)then(g2 ((IntKind.wrap .i64 (x1.1+(1:Int))),(x1.2.1,(x1.2.2.1,(x1.2.2.2.1,((List.set (List.set x1.2.2.2.2.1 ((0:Nat)+(Int.toNat x1.1)) (IntKind.wrap .u32 (((BitVec.toNat ((BitVec.ofInt 32 (List.getD x1.2.2.2.2.1 ((0:Nat)+(Int.toNat x1.1)) (0:Int)))|||(BitVec.ofInt 32 (IntKind.wrap .u32 (IntKind.wrap .u64 ((IntKind.wrap .u64 (List.getD x1.2.2.1 (Int.toNat x1.1) (0:Int)))*((2:Int)^(Min.min (Int.toNat x1.2.2.2.1) 64)))))))):Nat):Int))) ((0:Nat)+(Int.toNat (IntKind.wrap .i64 (x1.1+(1:Int))))) (IntKind.wrap .u32 (Int.fdiv (IntKind.wrap .u64 ((IntKind.wrap .u64 (List.getD x1.2.2.1 (Int.toNat x1.1) (0:Int)))*((2:Int)^(Min.min (Int.toNat x1.2.2.2.1) 64)))) (4294967296:Int)))),()))))))
 else none)
 else none)
 else none)
 else none)
 else none)
 else none))
 else none)
 else none)
 else(some (x1.2.2.2.2.1,())))
def P.i_nat_shifted (k:Nat) (x:((List Int)×(Int×Unit))):(Option ((List Int)×Unit)):=
 (if((decide ((0:Int)≤(IntKind.wrap .i64 (((List.length x.1):Int)+(1:Int)))))=true)then(if((decide ((IntKind.wrap .i64 (((List.length x.1):Int)+(1:Int)))≤(IntKind.wrap .i64 (((List.length x.1):Int)+(1:Int)))))=true)then(if((decide (((IntKind.wrap .i64 (((List.length x.1):Int)+(1:Int)))*(4:Int))≤(281474976710656:Int)))=true)then(loopP (X:=(Int×(Int×((List Int)×(Int×((List Int)×Unit)))))) (R:=((List Int)×Unit)) (P.i_nat_shifted_b0) k ((0:Int),(((List.length x.1):Int),(x.1,(x.2.1,((List.replicate (Int.toNat (IntKind.wrap .i64 (((List.length x.1):Int)+(1:Int)))) (0:Int)),()))))))
 else none)
 else none)
 else none)
def S.i_nat_shifted (x:((List Int)×(Int×Unit))):(Option ((List Int)×Unit)):=if dig B32 x.1=true∧0≤x.2.1∧x.2.1≤31∧x.1.length≤10000000000 then some (fd B32 (x.1.length+1) (dval B32 x.1*2^x.2.1.toNat),())else none
theorem S.i_nat_shifted_ok (x:((List Int)×(Int×Unit))) (r:_) (h:S.i_nat_shifted x=some r):∃k,P.i_nat_shifted k x=some r:=by
 obtain⟨xs,by',u⟩:=x
 unfold S.i_nat_shifted at h
 dsimp only at h
 split at h
 case isFalse=>cases h
 rename_i hc
 obtain⟨hd,hb0,hb1,hl⟩:=hc
 cases h
 obtain⟨s,rfl⟩:∃d:Nat,by'=(d:Int):=⟨by'.toNat,by omega⟩
 rw[Int.toNat_natCast]
 have hs:s≤31:=by omega
 have hpow:0<2^s:=Nat.pow_pos (by decide)
 have hpow32:2^s≤2147483648:=Nat.le_trans (Nat.pow_le_pow_right (by decide) hs) (by decide)
 refine⟨xs.length+1,?_⟩
 unfold P.i_nat_shifted
 dsimp only
 rw[wr (by omega) (by omega)]
 have a1:(0:Int)≤(xs.length:Int)+1:=by omega
 have a3:((xs.length:Int)+1)*4≤281474976710656:=by omega
 rw[if_pos (decide_eq_true a1),if_pos (decide_eq_true (Int.le_refl _)),if_pos (decide_eq_true a3)]
 have e0:List.replicate ((xs.length:Int)+1).toNat (0:Int)=(mulUp B32 (2^s) xs 0).1++(((mulUp B32 (2^s) xs 0).2:Int)::List.replicate (xs.length - 0) 0):=by
  rw[show((xs.length:Int)+1).toNat=xs.length+1 by omega,List.replicate_succ]
  rfl
 rw[e0]
 have key:=loop_up0 (k:=xs.length+1) (b:=P.i_nat_shifted_b0) (n:=xs.length) (st:=fun i=>((i:Int),(xs.length:Int),xs,(s:Int),(mulUp B32 (2^s) xs i).1++(((mulUp B32 (2^s) xs i).2:Int)::List.replicate (xs.length - i) 0),())) (F:=fun i=>some (fd B32 (xs.length+1) (dval B32 xs*2^s),())) (fun i g hi hg=>by
  unfold P.i_nat_shifted_b0
  dsimp only at hg ⊢
  obtain⟨q1,q2,q3,q4⟩:=mulUp_ok (d:=2^s) B32_le hd i (by omega)
  have hlen:((mulUp B32 (2^s) xs i).1++(((mulUp B32 (2^s) xs i).2:Int)::List.replicate (xs.length - i) 0)).length=xs.length+1:=by rw[List.length_append,q2,List.length_cons,List.length_replicate];omega
  have e1:(i:Int)<(xs.length:Int):=by omega
  have e2:(0:Int)≤(i:Int):=by omega
  have e3:(i:Int)<((xs.length+1:Nat):Int):=by omega
  have e4:¬((s:Int)<0):=by omega
  rw[hlen]
  simp only[e1,e2,e3,e4,decide_true,decide_false,if_true,Nat.zero_add,Int.toNat_natCast,List.length_set,hlen,Bool.false_eq_true,if_false]
  rw[wr (x:=(i:Int)+1) (by omega) (by omega)]
  have e5:(0:Int)≤(i:Int)+1:=by omega
  have e6:(i:Int)+1<((xs.length+1:Nat):Int):=by omega
  simp only[e5,e6,decide_true,if_true]
  have hgD:xs.getD i 0=xs[i]:=by simp [hi]
  have hx:=dig_get hd hi
  have hx1:xs[i]<4294967296:=hx.2
  have hx0:=hx.1
  rw[mulUp,hgD]at hg
  rw[hgD]
  have hcar:(mulUp B32 (2^s) xs i).2<2^s:=by
   have h1:dval B32 (xs.take i)<B32^i:=by
    have h0:dig B32 (xs.take i)=true:=by
     have:=List.take_append_drop i xs
     rw[←this,dig_append,Bool.and_eq_true]at hd
     exact hd.1
    have:=dval_lt h0
    rwa [show(xs.take i).length=i by simp;omega]at this
   have h2:dval B32 (xs.take i)*2^s<B32^i*2^s:=Nat.mul_lt_mul_of_pos_right h1 hpow
   exact Nat.lt_of_mul_lt_mul_left (a:=B32^i) (by omega)
  generalize hP:mulUp B32 (2^s) xs i=p at*
  obtain⟨z,hz⟩:∃z:Nat,xs[i]=(z:Int):=⟨xs[i].toNat,(Int.toNat_of_nonneg hx0).symm⟩
  rw[hz]at hx1 hg ⊢
  rw[Int.toNat_natCast]at hg
  have hz32:z<2^32:=by omega
  have hzp:z*2^s<18446744073709551616:=Nat.lt_of_lt_of_le (Nat.mul_lt_mul_of_pos_right hz32 hpow) (by have:=Nat.mul_le_mul_left (2^32) hpow32;omega)
  have emin:Min.min s 64=s:=by omega
  have ep:((2:Int)^s)=((2^s:Nat):Int):=by rw[Int.natCast_pow];rfl
  have em:(z:Int)*((2^s:Nat):Int)=((z*2^s:Nat):Int):=(Int.natCast_mul _ _).symm
  rw[wu (x:=(z:Int)) (by omega) (by omega),emin,ep,em,wu (x:=((z*2^s:Nat):Int)) (by omega) (by omega)]
  have g1:(p.1++((p.2:Int)::List.replicate (xs.length - i) 0)).getD i 0=(p.2:Int):=by
   rw[List.getD_eq_getElem?_getD,List.getElem?_append_right (by omega),q2,Nat.sub_self]
   rfl
  rw[g1,u32_mod ((z*2^s:Nat):Int) (by omega)]
  have e7:((z*2^s:Nat):Int)%4294967296=((z*2^s%2^32:Nat):Int):=by
   show _=((z*2^s%4294967296:Nat):Int)
   omega
  have hlow:=shl_low z s (by omega)
  have hor:p.2|||(z*2^s%2^32)=p.2+z*2^s%2^32:=by rw[hlow,or_apart _ _ _ hcar]
  have hmlt:z*2^s%2^32<2^32:=Nat.mod_lt _ (by decide)
  have hsum:p.2+z*2^s%2^32<2^32:=by
   have h1:z%2^(32 - s)+1≤2^(32 - s):=Nat.mod_lt _ (Nat.pow_pos (by decide))
   have h2:2^s*(z%2^(32 - s)+1)≤2^s*2^(32 - s):=Nat.mul_le_mul_left _ h1
   rw[←Nat.pow_add,show s+(32 - s)=32 by omega,Nat.mul_add]at h2
   omega
  rw[e7,bv_or _ _ (by omega) hmlt,hor,w32 (by omega) (by omega),Int.fdiv_eq_ediv_of_nonneg _ (by omega)]
  have hq:z*2^s/4294967296<4294967296:=(Nat.div_lt_iff_lt_mul (by decide)).2 (by omega)
  have e8:((z*2^s:Nat):Int)/4294967296=((z*2^s/4294967296:Nat):Int):=by omega
  rw[e8,w32 (by omega) (by omega)]
  have e9:(z*2^s+p.2)%B32=p.2+z*2^s%2^32:=by
   show(z*2^s+p.2)%4294967296=p.2+z*2^s%4294967296
   omega
  have e10:(z*2^s+p.2)/B32=z*2^s/4294967296:=by
   show(z*2^s+p.2)/4294967296=_
   omega
  rw[e9,e10]at hg
  have z1:xs.length - i=(xs.length - (i+1))+1:=by omega
  rw[z1,List.replicate_succ,List.set_append_right _ _ (by omega),q2,Nat.sub_self,List.set_cons_zero,List.set_append_right _ _ (by omega),q2,show((i:Int)+1).toNat - i=1 by omega,List.set_cons_succ,List.set_cons_zero]
  rw[List.append_assoc]at hg
  exact hg) (fun g=>by
  unfold P.i_nat_shifted_b0
  dsimp only
  obtain⟨q1,q2,q3,q4⟩:=mulUp_ok (d:=2^s) B32_le hd xs.length (Nat.le_refl _)
  rw[List.take_length]at q3
  have hcar:(mulUp B32 (2^s) xs xs.length).2<2^s:=by
   have h2:dval B32 xs*2^s<B32^xs.length*2^s:=Nat.mul_lt_mul_of_pos_right (dval_lt hd) hpow
   exact Nat.lt_of_mul_lt_mul_left (a:=B32^xs.length) (by omega)
  rw[if_neg (by simp),Nat.sub_self]
  generalize mulUp B32 (2^s) xs xs.length=p at*
  have hdd:dig B32 (p.1++[(p.2:Int)])=true:=by
   rw[dig_append,q1,Bool.true_and,dig_cons]
   refine⟨⟨Int.natCast_nonneg _,?_⟩,rfl⟩
   show(p.2:Int)<4294967296
   omega
  have:=fd_dval (B:=B32) (by decide) hdd
  rw[dval_append,q2,show dval B32 [(p.2:Int)]=p.2 by simp [dval],q3,List.length_append,q2]at this
  show some (p.1++[(p.2:Int)],())=_
  rw[←this]
  rfl) (by omega)
 exact key
abbrev P.i_takeAway_b3 (x4:(Int×(Int×(Int×((List Int)×((List Int)×Unit)))))) (g5:(Int×(Int×(Int×((List Int)×((List Int)×Unit)))))→Option (Bool×((List Int)×Unit))):Option (Bool×((List Int)×Unit)):=
 (if((decide (x4.1<x4.2.1))=true)then(if((decide ((0:Int)≤x4.1))=true)then(if((decide (x4.1<((List.length x4.2.2.2.1):Int)))=true)then(if((decide (x4.1<((List.length x4.2.2.2.2.1):Int)))=true)then(if((decide ((0:Int)≤x4.1))=true)then(if((decide (x4.1<((List.length x4.2.2.2.2.1):Int)))=true)then(if((decide ((0:Int)≤x4.1))=true)then(if((decide (x4.1<((List.length x4.2.2.2.1):Int)))=true)then(g5 ((IntKind.wrap .i64 (x4.1+(1:Int))),(x4.2.1,((Int.fdiv (IntKind.wrap .u64 ((IntKind.wrap .u64 (x4.2.2.1+(IntKind.wrap .u64 (List.getD x4.2.2.2.1 ((0:Nat)+(Int.toNat x4.1)) (0:Int)))))+(IntKind.wrap .u64 (List.getD x4.2.2.2.2.1 (Int.toNat x4.1) (0:Int))))) (4294967296:Int)),((List.set x4.2.2.2.1 ((0:Nat)+(Int.toNat x4.1)) (IntKind.wrap .u32 (IntKind.wrap .u64 ((IntKind.wrap .u64 (x4.2.2.1+(IntKind.wrap .u64 (List.getD x4.2.2.2.1 ((0:Nat)+(Int.toNat x4.1)) (0:Int)))))+(IntKind.wrap .u64 (List.getD x4.2.2.2.2.1 (Int.toNat x4.1) (0:Int))))))),(x4.2.2.2.2.1,()))))))
 else none)
 else none)
 else none)
 else none)
 else(if((decide ((0:Int)≤x4.1))=true)then(if((decide (x4.1<((List.length x4.2.2.2.1):Int)))=true)then(g5 ((IntKind.wrap .i64 (x4.1+(1:Int))),(x4.2.1,((Int.fdiv (IntKind.wrap .u64 (x4.2.2.1+(IntKind.wrap .u64 (List.getD x4.2.2.2.1 ((0:Nat)+(Int.toNat x4.1)) (0:Int))))) (4294967296:Int)),((List.set x4.2.2.2.1 ((0:Nat)+(Int.toNat x4.1)) (IntKind.wrap .u32 (IntKind.wrap .u64 (x4.2.2.1+(IntKind.wrap .u64 (List.getD x4.2.2.2.1 ((0:Nat)+(Int.toNat x4.1)) (0:Int))))))),(x4.2.2.2.2.1,()))))))
 else none)
 else none))
 else none)
 else none)
 else(some (true,(x4.2.2.2.1,()))))
abbrev P.i_takeAway_b6 (x7:(Int×(Int×(Int×((List Int)×((List Int)×Unit)))))) (g8:(Int×(Int×(Int×((List Int)×((List Int)×Unit)))))→Option (Bool×((List Int)×Unit))):Option (Bool×((List Int)×Unit)):=
 (if((decide (x7.1<x7.2.1))=true)then(if((decide ((0:Int)≤x7.1))=true)then(if((decide (x7.1<((List.length x7.2.2.2.1):Int)))=true)then(if((decide (x7.1<((List.length x7.2.2.2.2.1):Int)))=true)then(if((decide ((0:Int)≤x7.1))=true)then(if((decide (x7.1<((List.length x7.2.2.2.2.1):Int)))=true)then(if((decide ((0:Int)≤x7.1))=true)then(if((decide (x7.1<((List.length x7.2.2.2.1):Int)))=true)then(g8 ((IntKind.wrap .i64 (x7.1+(1:Int))),(x7.2.1,((Int.fdiv (IntKind.wrap .u64 ((IntKind.wrap .u64 (x7.2.2.1+(IntKind.wrap .u64 (List.getD x7.2.2.2.1 ((0:Nat)+(Int.toNat x7.1)) (0:Int)))))+(IntKind.wrap .u64 (List.getD x7.2.2.2.2.1 (Int.toNat x7.1) (0:Int))))) (4294967296:Int)),((List.set x7.2.2.2.1 ((0:Nat)+(Int.toNat x7.1)) (IntKind.wrap .u32 (IntKind.wrap .u64 ((IntKind.wrap .u64 (x7.2.2.1+(IntKind.wrap .u64 (List.getD x7.2.2.2.1 ((0:Nat)+(Int.toNat x7.1)) (0:Int)))))+(IntKind.wrap .u64 (List.getD x7.2.2.2.2.1 (Int.toNat x7.1) (0:Int))))))),(x7.2.2.2.2.1,()))))))
 else none)
 else none)
 else none)
 else none)
 else(if((decide ((0:Int)≤x7.1))=true)then(if((decide (x7.1<((List.length x7.2.2.2.1):Int)))=true)then(g8 ((IntKind.wrap .i64 (x7.1+(1:Int))),(x7.2.1,((Int.fdiv (IntKind.wrap .u64 (x7.2.2.1+(IntKind.wrap .u64 (List.getD x7.2.2.2.1 ((0:Nat)+(Int.toNat x7.1)) (0:Int))))) (4294967296:Int)),((List.set x7.2.2.2.1 ((0:Nat)+(Int.toNat x7.1)) (IntKind.wrap .u32 (IntKind.wrap .u64 (x7.2.2.1+(IntKind.wrap .u64 (List.getD x7.2.2.2.1 ((0:Nat)+(Int.toNat x7.1)) (0:Int))))))),(x7.2.2.2.2.1,()))))))
 else none)
 else none))
 else none)
 else none)
 else(some (true,(x7.2.2.2.1,()))))
abbrev P.i_takeAway_b0 (k:Nat) (x1:(Int×(Int×((List Int)×(Int×(Int×((List Int)×(Int×Unit)))))))) (g2:(Int×(Int×((List Int)×(Int×(Int×((List Int)×(Int×Unit)))))))→Option (Bool×((List Int)×Unit))):Option (Bool×((List Int)×Unit)):=
 (if((decide (x1.1<x1.2.1))=true)then(if((decide (x1.1<((List.length x1.2.2.1):Int)))=true)then(if((decide ((0:Int)≤x1.1))=true)then(if((decide (x1.1<((List.length x1.2.2.1):Int)))=true)then(if((decide ((0:Int)≤x1.1))=true)then(if((decide (x1.1<((List.length x1.2.2.2.2.2.1):Int)))=true)then(if((decide ((IntKind.wrap .i64 ((IntKind.wrap .i64 ((IntKind.wrap .i64 (List.getD x1.2.2.2.2.2.1 ((0:Nat)+(Int.toNat x1.1)) (0:Int))) - (IntKind.wrap .i64 (IntKind.wrap .u32 (IntKind.wrap .u64 (x1.2.2.2.1+(IntKind.wrap .u64 (x1.2.2.2.2.1*(IntKind.wrap .u64 (List.getD x1.2.2.1 (Int.toNat x1.1) (0:Int))))))))))) - x1.2.2.2.2.2.2.1))<(0:Int)))=true)then(if((decide ((0:Int)≤x1.1))=true)then(if((decide (x1.1<((List.length x1.2.2.2.2.2.1):Int)))=true)then(g2 ((IntKind.wrap .i64 (x1.1+(1:Int))),(x1.2.1,(x1.2.2.1,((Int.fdiv (IntKind.wrap .u64 (x1.2.2.2.1+(IntKind.wrap .u64 (x1.2.2.2.2.1*(IntKind.wrap .u64 (List.getD x1.2.2.1 (Int.toNat x1.1) (0:Int))))))) (4294967296:Int)),(x1.2.2.2.2.1,((List.set x1.2.2.2.2.2.1 ((0:Nat)+(Int.toNat x1.1)) (IntKind.wrap .u32 (IntKind.wrap .i64 ((IntKind.wrap .i64 ((IntKind.wrap .i64 (List.getD x1.2.2.2.2.2.1 ((0:Nat)+(Int.toNat x1.1)) (0:Int))) - (IntKind.wrap .i64 (IntKind.wrap .u32 (IntKind.wrap .u64 (x1.2.2.2.1+(IntKind.wrap .u64 (x1.2.2.2.2.1*(IntKind.wrap .u64 (List.getD x1.2.2.1 (Int.toNat x1.1) (0:Int))))))))))) - x1.2.2.2.2.2.2.1)))),((1:Int),()))))))))
 else none)
 else none)
 else(if((decide ((0:Int)≤x1.1))=true)then(if((decide (x1.1<((List.length x1.2.2.2.2.2.1):Int)))=true)then(g2 ((IntKind.wrap .i64 (x1.1+(1:Int))),(x1.2.1,(x1.2.2.1,((Int.fdiv (IntKind.wrap .u64 (x1.2.2.2.1+(IntKind.wrap .u64 (x1.2.2.2.2.1*(IntKind.wrap .u64 (List.getD x1.2.2.1 (Int.toNat x1.1) (0:Int))))))) (4294967296:Int)),(x1.2.2.2.2.1,((List.set x1.2.2.2.2.2.1 ((0:Nat)+(Int.toNat x1.1)) (IntKind.wrap .u32 (IntKind.wrap .i64 ((IntKind.wrap .i64 ((IntKind.wrap .i64 (List.getD x1.2.2.2.2.2.1 ((0:Nat)+(Int.toNat x1.1)) (0:Int))) - (IntKind.wrap .i64 (IntKind.wrap .u32 (IntKind.wrap .u64 (x1.2.2.2.1+(IntKind.wrap .u64 (x1.2.2.2.2.1*(IntKind.wrap .u64 (List.getD x1.2.2.1 (Int.toNat x1.1) (0:Int))))))))))) - x1.2.2.2.2.2.2.1)))),((0:Int),()))))))))
 else none)
 else none))
 else none)
 else none)
 else none)
 else none)
 else(if((decide ((0:Int)≤x1.1))=true)then(if((decide (x1.1<((List.length x1.2.2.2.2.2.1):Int)))=true)then(if((decide ((IntKind.wrap .i64 ((IntKind.wrap .i64 ((IntKind.wrap .i64 (List.getD x1.2.2.2.2.2.1 ((0:Nat)+(Int.toNat x1.1)) (0:Int))) - (IntKind.wrap .i64 (IntKind.wrap .u32 x1.2.2.2.1)))) - x1.2.2.2.2.2.2.1))<(0:Int)))=true)then(if((decide ((0:Int)≤x1.1))=true)then(if((decide (x1.1<((List.length x1.2.2.2.2.2.1):Int)))=true)then(g2 ((IntKind.wrap .i64 (x1.1+(1:Int))),(x1.2.1,(x1.2.2.1,((Int.fdiv x1.2.2.2.1 (4294967296:Int)),(x1.2.2.2.2.1,((List.set x1.2.2.2.2.2.1 ((0:Nat)+(Int.toNat x1.1)) (IntKind.wrap .u32 (IntKind.wrap .i64 ((IntKind.wrap .i64 ((IntKind.wrap .i64 (List.getD x1.2.2.2.2.2.1 ((0:Nat)+(Int.toNat x1.1)) (0:Int))) - (IntKind.wrap .i64 (IntKind.wrap .u32 x1.2.2.2.1)))) - x1.2.2.2.2.2.2.1)))),((1:Int),()))))))))
 else none)
 else none)
 else(if((decide ((0:Int)≤x1.1))=true)then(if((decide (x1.1<((List.length x1.2.2.2.2.2.1):Int)))=true)then(g2 ((IntKind.wrap .i64 (x1.1+(1:Int))),(x1.2.1,(x1.2.2.1,((Int.fdiv x1.2.2.2.1 (4294967296:Int)),(x1.2.2.2.2.1,((List.set x1.2.2.2.2.2.1 ((0:Nat)+(Int.toNat x1.1)) (IntKind.wrap .u32 (IntKind.wrap .i64 ((IntKind.wrap .i64 ((IntKind.wrap .i64 (List.getD x1.2.2.2.2.2.1 ((0:Nat)+(Int.toNat x1.1)) (0:Int))) - (IntKind.wrap .i64 (IntKind.wrap .u32 x1.2.2.2.1)))) - x1.2.2.2.2.2.2.1)))),((0:Int),()))))))))
 else none)
 else none))
 else none)
 else none))
 else(if((x1.2.2.2.2.2.2.1==(0:Int))=true)then(if((x1.2.2.2.1==(0:Int))=true)then(some (false,(x1.2.2.2.2.2.1,())))
 else(loopP (X:=(Int×(Int×(Int×((List Int)×((List Int)×Unit)))))) (R:=(Bool×((List Int)×Unit))) (P.i_takeAway_b3) k ((0:Int),(((List.length x1.2.2.2.2.2.1):Int),((0:Int),(x1.2.2.2.2.2.1,(x1.2.2.1,())))))))
 else(loopP (X:=(Int×(Int×(Int×((List Int)×((List Int)×Unit)))))) (R:=(Bool×((List Int)×Unit))) (P.i_takeAway_b6) k ((0:Int),(((List.length x1.2.2.2.2.2.1):Int),((0:Int),(x1.2.2.2.2.2.1,(x1.2.2.1,()))))))))
def P.i_takeAway (k:Nat) (x:((List Int)×((List Int)×(Int×Unit)))):(Option (Bool×((List Int)×Unit))):=
 (loopP (X:=(Int×(Int×((List Int)×(Int×(Int×((List Int)×(Int×Unit)))))))) (R:=(Bool×((List Int)×Unit))) (P.i_takeAway_b0 k) k ((0:Int),(((List.length x.1):Int),(x.2.1,((0:Int),(x.2.2.1,(x.1,((0:Int),()))))))))
theorem takeBack (b:(Int×(Int×(Int×((List Int)×((List Int)×Unit)))))→((Int×(Int×(Int×((List Int)×((List Int)×Unit)))))→Option (Bool×((List Int)×Unit)))→Option (Bool×((List Int)×Unit))) (hb:b=P.i_takeAway_b3)
  (xs ys:List Int) (hx:dig B32 xs=true) (hy:dig B32 ys=true) (hl:ys.length≤xs.length) (hbig:xs.length≤100000000000):
  loopP b (xs.length+1) ((0:Int),((xs.length:Int),((0:Int),(xs,(ys,())))))=some (true,fd B32 xs.length (dval B32 xs+dval B32 ys),()):=by
 subst hb
 have key:=loop_up0 (k:=xs.length+1) (b:=P.i_takeAway_b3) (n:=xs.length) (st:=fun i=>((i:Int),(xs.length:Int),((addUp B32 xs ys i).2:Int),(addUp B32 xs ys i).1++xs.drop i,ys,())) (F:=fun i=>some (true,fd B32 xs.length (dval B32 xs+dval B32 ys),())) (fun i g hi hg=>by
  unfold P.i_takeAway_b3
  dsimp only at hg ⊢
  obtain⟨q1,q2,q3,q4⟩:=addUp_ok B32_le hx hy i
  have gx:=dig_getD (B:=B32) (by decide) hx i
  have gy:=dig_getD (B:=B32) (by decide) hy i
  have gx1:xs.getD i 0<4294967296:=gx.2
  have gy1:ys.getD i 0<4294967296:=gy.2
  have gx0:=gx.1
  have gy0:=gy.1
  have hlen:((addUp B32 xs ys i).1++xs.drop i).length=xs.length:=by rw[List.length_append,q2,List.length_drop];omega
  have e1:(i:Int)<(xs.length:Int):=by omega
  have e2:(0:Int)≤(i:Int):=by omega
  rw[hlen]
  simp only[e1,e2,decide_true,if_true,Nat.zero_add,Int.toNat_natCast]
  rw[drop_cons_getD hi,mid_get q2]
  simp only[mid_set q2]
  have hnat:∀n:Nat,n=(addUp B32 xs ys i).2+(xs.getD i 0).toNat+(ys.getD i 0).toNat→(((n%B32:Nat):Int)=(n:Int)%4294967296∧((n/B32:Nat):Int)=(n:Int)/4294967296):=by
   intro n _
   constructor
   ·show((n%4294967296:Nat):Int)=_;omega
   ·show((n/4294967296:Nat):Int)=_;omega
  obtain⟨n1,n2⟩:=hnat _ rfl
  rw[addUp]at hg
  dsimp only at hg
  rw[n1,n2]at hg
  by_cases hj:(i:Int)<(ys.length:Int)
  ·rw[if_pos (decide_eq_true hj),if_pos (decide_eq_true hj)]
   rw[wu (x:=xs.getD i 0) (by omega) (by omega),wu (x:=ys.getD i 0) (by omega) (by omega),wu (x:=((addUp B32 xs ys i).2:Int)+xs.getD i 0) (by omega) (by omega),wu (x:=((addUp B32 xs ys i).2:Int)+xs.getD i 0+ys.getD i 0) (by omega) (by omega),u32_mod _ (by omega),Int.fdiv_eq_ediv_of_nonneg _ (by omega),wr (by omega) (by omega)]
   have e:(((addUp B32 xs ys i).2+(xs.getD i 0).toNat+(ys.getD i 0).toNat:Nat):Int)=((addUp B32 xs ys i).2:Int)+xs.getD i 0+ys.getD i 0:=by omega
   rw[e]at hg
   exact hg
  ·rw[if_neg (by simpa using hj)]
   have y0:ys.getD i 0=0:=by rw[List.getD_eq_getElem?_getD,List.getElem?_eq_none (by omega)];rfl
   rw[wu (x:=xs.getD i 0) (by omega) (by omega),wu (x:=((addUp B32 xs ys i).2:Int)+xs.getD i 0) (by omega) (by omega),u32_mod _ (by omega),Int.fdiv_eq_ediv_of_nonneg _ (by omega),wr (by omega) (by omega)]
   have e:(((addUp B32 xs ys i).2+(xs.getD i 0).toNat+(ys.getD i 0).toNat:Nat):Int)=((addUp B32 xs ys i).2:Int)+xs.getD i 0:=by omega
   rw[e]at hg
   exact hg) (fun g=>by
  unfold P.i_takeAway_b3
  dsimp only
  rw[if_neg (by simp),List.drop_length,List.append_nil,addUp_fd B32_le hx hy hl]) (by omega)
 have e0:(addUp B32 xs ys 0).1++xs.drop 0=xs:=rfl
 rw[e0]at key
 exact key
def S.i_takeAway (x:((List Int)×((List Int)×(Int×Unit)))):(Option (Bool×((List Int)×Unit))):=
 if dig B32 x.1=true∧dig B32 x.2.1=true∧0≤x.2.2.1∧x.2.2.1<4294967296∧x.2.1.length≤x.1.length∧x.1.length≤10000000000∧dval B32 x.2.1*x.2.2.1.toNat≤dval B32 x.1+dval B32 x.2.1 then
  (if dval B32 x.2.1*x.2.2.1.toNat≤dval B32 x.1 then some (false,fd B32 x.1.length (dval B32 x.1 - dval B32 x.2.1*x.2.2.1.toNat),())
   else some (true,fd B32 x.1.length (dval B32 x.1+dval B32 x.2.1 - dval B32 x.2.1*x.2.2.1.toNat),()))else none
theorem S.i_takeAway_ok (x:((List Int)×((List Int)×(Int×Unit)))) (r:_) (h:S.i_takeAway x=some r):∃k,P.i_takeAway k x=some r:=by
 obtain⟨xs,ys,t',u⟩:=x
 unfold S.i_takeAway at h
 dsimp only at h
 split at h
 case isFalse=>cases h
 rename_i hc
 obtain⟨hx,hy,ht0,ht1,hl,hbig,hfit⟩:=hc
 obtain⟨t,rfl⟩:∃d:Nat,t'=(d:Int):=⟨t'.toNat,by omega⟩
 rw[Int.toNat_natCast]at h hfit
 have ht:t≤4294967295:=by omega
 refine⟨xs.length+1,?_⟩
 rw[←h]
 unfold P.i_takeAway
 dsimp only
 have key:=loop_up0 (k:=xs.length+1) (b:=P.i_takeAway_b0 (xs.length+1)) (n:=xs.length) (st:=fun i=>((i:Int),(xs.length:Int),ys,((takeUp B32 t xs ys i).2.1:Int),(t:Int),(takeUp B32 t xs ys i).1++xs.drop i,((takeUp B32 t xs ys i).2.2:Int),())) (F:=fun i=>(if dval B32 ys*t≤dval B32 xs then some (false,fd B32 xs.length (dval B32 xs - dval B32 ys*t),())
   else some (true,fd B32 xs.length (dval B32 xs+dval B32 ys - dval B32 ys*t),()))) (fun i g hi hg=>by
  unfold P.i_takeAway_b0
  dsimp only at hg ⊢
  obtain⟨q1,q2,q3,q4,q5⟩:=takeUp_ok (t:=t) B32_le hx hy i
  have gx:=dig_getD (B:=B32) (by decide) hx i
  have gy:=dig_getD (B:=B32) (by decide) hy i
  have gx1:xs.getD i 0<4294967296:=gx.2
  have gy1:ys.getD i 0<4294967296:=gy.2
  have gx0:=gx.1
  have gy0:=gy.1
  have hlen:((takeUp B32 t xs ys i).1++xs.drop i).length=xs.length:=by rw[List.length_append,q2,List.length_drop];omega
  have e1:(i:Int)<(xs.length:Int):=by omega
  have e2:(0:Int)≤(i:Int):=by omega
  rw[hlen]
  simp only[e1,e2,decide_true,if_true,Nat.zero_add,Int.toNat_natCast]
  rw[drop_cons_getD hi,mid_get q2]
  simp only[mid_set q2]
  rw[takeUp]at hg
  dsimp only at hg
  have y0:¬((i:Int)<(ys.length:Int))→ys.getD i 0=0:=by
   intro hj
   rw[List.getD_eq_getElem?_getD,List.getElem?_eq_none (by omega)]
   rfl
  generalize xs.getD i 0=x at*
  generalize ys.getD i 0=y at*
  generalize takeUp B32 t xs ys i=p at*
  obtain⟨pl,c0,l0⟩:=p
  dsimp only at*
  obtain⟨Y,rfl⟩:∃Y:Nat,y=(Y:Int):=⟨y.toNat,by omega⟩
  rw[Int.toNat_natCast]at hg
  have htY:t*Y≤4294967295*4294967295:=Nat.mul_le_mul ht (by omega)
  have em:(t:Int)*(Y:Int)=((t*Y:Nat):Int):=(Int.natCast_mul _ _).symm
  have fin:∀c:Nat,c=c0+t*Y→(let n:=IntKind.wrap .i64 (IntKind.wrap .i64 (IntKind.wrap .i64 x - IntKind.wrap .i64 (IntKind.wrap .u32 (c:Int))) - (l0:Int))
    (if decide (n<0)=true then g (IntKind.wrap .i64 ((i:Int)+1),(xs.length:Int),ys,Int.fdiv (c:Int) 4294967296,(t:Int),(pl++[IntKind.wrap .u32 n])++xs.drop (i+1),1,())
     else g (IntKind.wrap .i64 ((i:Int)+1),(xs.length:Int),ys,Int.fdiv (c:Int) 4294967296,(t:Int),(pl++[IntKind.wrap .u32 n])++xs.drop (i+1),0,()))=(if dval B32 ys*t≤dval B32 xs then some (false,fd B32 xs.length (dval B32 xs - dval B32 ys*t),())
   else some (true,fd B32 xs.length (dval B32 xs+dval B32 ys - dval B32 ys*t),()))):=by
   intro c hcc
   rw[←hcc]at hg
   have e8:(c:Int)%4294967296=((c%B32:Nat):Int):=by
    show _=((c%4294967296:Nat):Int)
    omega
   have e9:Int.fdiv (c:Int) 4294967296=((c/B32:Nat):Int):=by
    rw[Int.fdiv_eq_ediv_of_nonneg _ (by omega)]
    show _=((c/4294967296:Nat):Int)
    omega
   have e10:c%B32<4294967296:=Nat.mod_lt _ (by decide)
   rw[u32_mod (c:Int) (by omega),e8,e9,wr (x:=(i:Int)+1) (by omega) (by omega),wr (x:=x) (by omega) (by omega),wr (x:=((c%B32:Nat):Int)) (by omega) (by omega),wr (x:=x - ((c%B32:Nat):Int)) (by omega) (by omega),wr (x:=x - ((c%B32:Nat):Int) - (l0:Int)) (by omega) (by omega)]
   dsimp only
   rw[u32_emod]
   by_cases hn:x - ((c%B32:Nat):Int) - (l0:Int)<0
   ·rw[if_pos hn]at hg
    rw[if_pos (decide_eq_true hn)]
    exact hg
   ·rw[if_neg hn]at hg
    rw[if_neg (by simpa using hn)]
    exact hg
  by_cases hj:(i:Int)<(ys.length:Int)
  ·simp only[hj,decide_true,if_true]
   rw[wu (x:=(Y:Int)) (by omega) (by omega),em,wu (x:=((t*Y:Nat):Int)) (by omega) (by omega),←Int.natCast_add,wu (x:=((c0+t*Y:Nat):Int)) (by omega) (by omega)]
   exact fin _ rfl
  ·rw[if_neg (by simpa using hj)]
   have hY:Y=0:=by have:=y0 hj;omega
   subst hY
   exact fin c0 rfl) (fun g=>by
  unfold P.i_takeAway_b0
  dsimp only
  obtain⟨q1,q2,q3,q4,q5⟩:=takeUp_ok (t:=t) B32_le hx hy xs.length
  rw[List.take_length,List.take_of_length_le hl]at q3
  rw[if_neg (by simp),List.drop_length,List.append_nil]
  generalize takeUp B32 t xs ys xs.length=p at*
  obtain⟨pl,c0,l0⟩:=p
  dsimp only at*
  have hlt:=dval_lt q1
  rw[q2]at hlt
  have hback:∀b,b=P.i_takeAway_b3→0<c0+l0→loopP b (xs.length+1) ((0:Int),((pl.length:Int),((0:Int),(pl,(ys,())))))=(if dval B32 ys*t≤dval B32 xs then some (false,fd B32 xs.length (dval B32 xs - dval B32 ys*t),())
   else some (true,fd B32 xs.length (dval B32 xs+dval B32 ys - dval B32 ys*t),())):=by
   intro b hb hpos
   have hge:B32^xs.length*1≤B32^xs.length*(c0+l0):=Nat.mul_le_mul_left _ hpos
   rw[if_neg (by omega)]
   have:=takeBack b hb pl ys q1 hy (by omega) (by omega)
   rw[q2]at this
   rw[q2,this]
   congr 2
   have e1:dval B32 pl+dval B32 ys=(dval B32 xs+dval B32 ys - dval B32 ys*t)+B32^xs.length*(c0+l0):=by omega
   rw[e1,←fd_mod B32 xs.length (_+_),Nat.add_mul_mod_self_left,fd_mod]
  by_cases hl0:l0=0
  ·subst hl0
   rw[if_pos (by rfl)]
   by_cases hc0:c0=0
   ·subst hc0
    rw[if_pos (by rfl),if_pos (by omega)]
    congr 2
    have:pl=fd B32 xs.length (dval B32 xs - dval B32 ys*t):=fd_eq B32_le q1 q2 (by omega)
    rw[this]
   ·rw[if_neg (by simp;omega)]
    exact hback _ rfl (by omega)
  ·rw[if_neg (by simp;omega)]
   exact hback _ rfl (by omega)) (by omega)
 exact key
end Go.Cm
end
