import Derived.Test.YtdpljomfkoojnaaGreatDoorPlReverseChaina
set_option linter.unusedVariables false
set_option maxRecDepth 100000
noncomputable section
namespace Go.Cm
open IntKind (wrap)
def P.c7k (k:Nat) (x:ByteArray×Unit):Option ((RB×Bool)×Unit):=
 if decide ((x.1.size:Int)>0)then if decide (0<(x.1.size:Int))then if(a2h x.1 0)==45 then if decide (0<=(x.1.size:Int))then if decide ((x.1.size:Int)<=(x.1.size:Int))then if decide (1<=(x.1.size:Int))then(S.a8c (ByteArray.extract x.1 1 (Int.toNat (x.1.size:Int)),47,())).bind fun y0=>if decide ((y0.1.length:Int)>2)then some (((false,[],[]),false),())else if decide (0<(y0.1.length:Int))then(S.a0x (y0.1.getD 0 (bs []),())).bind fun y1=>if !y1.1 then some (((false,[],[]),false),())else if decide (0<(y0.1.length:Int))then(S.a0s (y0.1.getD 0 (bs []),())).bind fun y2=>if(a2h x.1 0)==45 then if(y2.1.length:Int)==0 then some (((false,[],[]),false),())else if(y0.1.length:Int)==1 then some ((((a2h x.1 0)==45,y2.1,[1]),true),())else if decide (1<(y0.1.length:Int))then(S.a0x (y0.1.getD 1 (bs []),())).bind fun y3=>if !y3.1 then some (((false,[],[]),false),())else if decide (1<(y0.1.length:Int))then(S.a0s (y0.1.getD 1 (bs []),())).bind fun y4=>(S.a0o (y4.1,[1],())).bind fun y5=>if decide (y5.1<=0)then some (((false,[],[]),false),())else(S.a3g (y2.1,y4.1,())).bind fun y6=>(S.a0o (y6.1,[1],())).bind fun y7=>if y7.1 != 0 then some (((false,[],[]),false),())else some ((((a2h x.1 0)==45,y2.1,y4.1),true),())else none else none else if(y0.1.length:Int)==1 then some ((((a2h x.1 0)==45,y2.1,[1]),true),())else if decide (1<(y0.1.length:Int))then(S.a0x (y0.1.getD 1 (bs []),())).bind fun y8=>if !y8.1 then some (((false,[],[]),false),())else if decide (1<(y0.1.length:Int))then(S.a0s (y0.1.getD 1 (bs []),())).bind fun y9=>(S.a0o (y9.1,[1],())).bind fun y10=>if decide (y10.1<=0)then some (((false,[],[]),false),())else(S.a3g (y2.1,y9.1,())).bind fun y11=>(S.a0o (y11.1,[1],())).bind fun y12=>if y12.1 != 0 then some (((false,[],[]),false),())else some ((((a2h x.1 0)==45,y2.1,y9.1),true),())else none else none else none else none else none else none else none else(S.a8c (x.1,47,())).bind fun y13=>if decide ((y13.1.length:Int)>2)then some (((false,[],[]),false),())else if decide (0<(y13.1.length:Int))then(S.a0x (y13.1.getD 0 (bs []),())).bind fun y14=>if !y14.1 then some (((false,[],[]),false),())else if decide (0<(y13.1.length:Int))then(S.a0s (y13.1.getD 0 (bs []),())).bind fun y15=>if(a2h x.1 0)==45 then if(y15.1.length:Int)==0 then some (((false,[],[]),false),())else if(y13.1.length:Int)==1 then some ((((a2h x.1 0)==45,y15.1,[1]),true),())else if decide (1<(y13.1.length:Int))then(S.a0x (y13.1.getD 1 (bs []),())).bind fun y16=>if !y16.1 then some (((false,[],[]),false),())else if decide (1<(y13.1.length:Int))then(S.a0s (y13.1.getD 1 (bs []),())).bind fun y17=>(S.a0o (y17.1,[1],())).bind fun y18=>if decide (y18.1<=0)then some (((false,[],[]),false),())else(S.a3g (y15.1,y17.1,())).bind fun y19=>(S.a0o (y19.1,[1],())).bind fun y20=>if y20.1 != 0 then some (((false,[],[]),false),())else some ((((a2h x.1 0)==45,y15.1,y17.1),true),())else none else none else if(y13.1.length:Int)==1 then some ((((a2h x.1 0)==45,y15.1,[1]),true),())else if decide (1<(y13.1.length:Int))then(S.a0x (y13.1.getD 1 (bs []),())).bind fun y21=>if !y21.1 then some (((false,[],[]),false),())else if decide (1<(y13.1.length:Int))then(S.a0s (y13.1.getD 1 (bs []),())).bind fun y22=>(S.a0o (y22.1,[1],())).bind fun y23=>if decide (y23.1<=0)then some (((false,[],[]),false),())else(S.a3g (y15.1,y22.1,())).bind fun y24=>(S.a0o (y24.1,[1],())).bind fun y25=>if y25.1 != 0 then some (((false,[],[]),false),())else some ((((a2h x.1 0)==45,y15.1,y22.1),true),())else none else none else none else none else none else(S.a8c (x.1,47,())).bind fun y26=>if decide ((y26.1.length:Int)>2)then some (((false,[],[]),false),())else if decide (0<(y26.1.length:Int))then(S.a0x (y26.1.getD 0 (bs []),())).bind fun y27=>if !y27.1 then some (((false,[],[]),false),())else if decide (0<(y26.1.length:Int))then(S.a0s (y26.1.getD 0 (bs []),())).bind fun y28=>if(y26.1.length:Int)==1 then some (((false,y28.1,[1]),true),())else if decide (1<(y26.1.length:Int))then(S.a0x (y26.1.getD 1 (bs []),())).bind fun y29=>if !y29.1 then some (((false,[],[]),false),())else if decide (1<(y26.1.length:Int))then(S.a0s (y26.1.getD 1 (bs []),())).bind fun y30=>(S.a0o (y30.1,[1],())).bind fun y31=>if decide (y31.1<=0)then some (((false,[],[]),false),())else(S.a3g (y28.1,y30.1,())).bind fun y32=>(S.a0o (y32.1,[1],())).bind fun y33=>if y33.1 != 0 then some (((false,[],[]),false),())else some (((false,y28.1,y30.1),true),())else none else none else none else none
theorem g0t (T:ByteArray) (n:Bool) (hsz:T.size<=1000000):
  (Option.bind (S.a8c (T,((47:Int),()))) (fun(z0:((List ByteArray)×Unit))=>(if((decide (((List.length z0.1):Int)>(2:Int)))=true)then(some (((false,(([]:List Int),([]:List Int))),false),()))
 else(if((decide ((0:Int)<((List.length z0.1):Int)))=true)then(Option.bind (S.a0x ((List.getD z0.1 (0:Nat) (Go.Cm.bs [])),())) (fun(z1:(Bool×Unit))=>(if((!z1.1)=true)then(some (((false,(([]:List Int),([]:List Int))),false),()))
 else(if((decide ((0:Int)<((List.length z0.1):Int)))=true)then(Option.bind (S.a0s ((List.getD z0.1 (0:Nat) (Go.Cm.bs [])),())) (fun(z2:((List Int)×Unit))=>(if(n=true)then(if((((List.length z2.1):Int)==(0:Int))=true)then(some (((false,(([]:List Int),([]:List Int))),false),()))
 else(if((((List.length z0.1):Int)==(1:Int))=true)then(some (((n,(z2.1,((1:Int)::([]:List Int)))),true),()))
 else(if((decide ((1:Int)<((List.length z0.1):Int)))=true)then(Option.bind (S.a0x ((List.getD z0.1 (1:Nat) (Go.Cm.bs [])),())) (fun(z3:(Bool×Unit))=>(if((!z3.1)=true)then(some (((false,(([]:List Int),([]:List Int))),false),()))
 else(if((decide ((1:Int)<((List.length z0.1):Int)))=true)then(Option.bind (S.a0s ((List.getD z0.1 (1:Nat) (Go.Cm.bs [])),())) (fun(z4:((List Int)×Unit))=>(Option.bind (S.a0o (z4.1,(((1:Int)::([]:List Int)),()))) (fun(z5:(Int×Unit))=>(if((decide (z5.1<=(0:Int)))=true)then(some (((false,(([]:List Int),([]:List Int))),false),()))
 else(Option.bind (S.a3g (z2.1,(z4.1,()))) (fun(z6:((List Int)×Unit))=>(Option.bind (S.a0o (z6.1,(((1:Int)::([]:List Int)),()))) (fun(z7:(Int×Unit))=>(if((z7.1 != (0:Int))=true)then(some (((false,(([]:List Int),([]:List Int))),false),()))
 else(some (((n,(z2.1,z4.1)),true),()))))))))))))
 else none))))
 else none)))
 else(if((((List.length z0.1):Int)==(1:Int))=true)then(some (((n,(z2.1,((1:Int)::([]:List Int)))),true),()))
 else(if((decide ((1:Int)<((List.length z0.1):Int)))=true)then(Option.bind (S.a0x ((List.getD z0.1 (1:Nat) (Go.Cm.bs [])),())) (fun(z8:(Bool×Unit))=>(if((!z8.1)=true)then(some (((false,(([]:List Int),([]:List Int))),false),()))
 else(if((decide ((1:Int)<((List.length z0.1):Int)))=true)then(Option.bind (S.a0s ((List.getD z0.1 (1:Nat) (Go.Cm.bs [])),())) (fun(z9:((List Int)×Unit))=>(Option.bind (S.a0o (z9.1,(((1:Int)::([]:List Int)),()))) (fun(z10:(Int×Unit))=>(if((decide (z10.1<=(0:Int)))=true)then(some (((false,(([]:List Int),([]:List Int))),false),()))
 else(Option.bind (S.a3g (z2.1,(z9.1,()))) (fun(z11:((List Int)×Unit))=>(Option.bind (S.a0o (z11.1,(((1:Int)::([]:List Int)),()))) (fun(z12:(Int×Unit))=>(if((z12.1 != (0:Int))=true)then(some (((false,(([]:List Int),([]:List Int))),false),()))
 else(some (((n,(z2.1,z9.1)),true),()))))))))))))
 else none))))
 else none)))))
 else none))))
 else none))))=some ((rp B10 (a6a n (b1h 47 T.data.toList)).1,(a6a n (b1h 47 T.data.toList)).2),()):=by
 have hbad:((false,(([]:List Int),([]:List Int))),false)=(rp B10 noQ.1,noQ.2):=by
  unfold noQ rp;dsimp only;rw[a1t a0d]
 have hcut:S.a8c (T,(47,()))=some ((a9n T 47 (T.size+1)).1,()):=by
  unfold S.a8c;exact if_pos hsz
 have hp:(a9n T 47 (T.size+1)).1.map (·.data.toList)=a5e 47 T.data.toList:=c7y T 47;have hlen:∀A∈(a9n T 47 (T.size+1)).1,A.data.toList.length<=1000000:=by
  intro A hA;have h1:=d7j 47 T.data.toList A.data.toList (by rw[<-hp];exact List.mem_map_of_mem hA);have h2:T.size=T.data.toList.length:=by rw[Array.length_toList];rfl
  omega
 rw[hcut,Option.bind_some,hbad];generalize (a9n T 47 (T.size+1)).1=ps at*;rw[b8b]at hp;generalize hc:b1h 47 T.data.toList=c at*;have hDig:∀A∈ps,S.a0x (A,())=some (okN A.data.toList,()):=by
  intro A hA;have h1:=hlen A hA;have h2:A.size=A.data.toList.length:=by rw[Array.length_toList];rfl
  unfold S.a0x;exact if_pos (by dsimp only;omega)
 have hRead:∀A∈ps,okN A.data.toList=true->S.a0s (A,())=some (nd B10 (dv A.data.toList),()):=by
  intro A hA hok;have h1:=c1g hok;unfold S.a0s;exact if_pos ⟨h1.1,by dsimp only;omega⟩
 have hz:∀m:Nat,(((nd B10 m).length:Int)==0)=decide (m=0):=by
  intro m;have:=a9t a0d (a0m a0d m);rw[a0i a0d]at this
  by_cases h0:m=0
  ·rw[this.2 h0,h0];rfl
  ·have hne:=fun q=>h0 (this.1 q)
   rw[decide_eq_false h0];simpa using hne
 have hone:([1]:List Int)=nd B10 1:=(e4k a0d).symm;unfold a6a;cases hf:c.2.2
 ·
  rw[hf,if_neg (by decide)]at hp;obtain⟨A,rfl,hA⟩:∃A,ps=[A]/\A.data.toList=c.1:=by
   exact List.map_eq_singleton_iff.1 hp
  have hd:=hDig A (by simp);have hr:=hRead A (by simp);rw[hA]at hd hr;have l1:¬(((List.length [A]:Nat):Int)>2):=by simp
  have l2:(0:Int)<((List.length [A]:Nat):Int):=by simp
  have l3:(((List.length [A]:Nat):Int)==1)=true:=rfl;simp only[l1,l2,l3,decide_true,decide_false,if_true,if_false,Bool.false_eq_true,List.getD_cons_zero];rw[hd,Option.bind_some];dsimp only;cases hok:okN c.1
  ·rw[if_pos (show(!false)=true by rfl),if_neg (fun q=>by cases q.1)]
  ·rw[if_neg (show ¬((!true)=true) by decide),hr hok,Option.bind_some];dsimp only;rw[hz];cases n
   ·rw[if_neg (show ¬((false:Bool)=true) by decide),if_pos ⟨rfl,fun q=>by cases q.1⟩,hone];rfl
   ·rw[if_pos rfl]
    by_cases h0:dv c.1=0
    ·rw[if_pos (decide_eq_true h0),if_neg (fun q=>q.2 ⟨rfl,h0⟩)]
    ·rw[if_neg (by simpa using h0),if_pos ⟨rfl,fun q=>h0 q.2⟩,hone];rfl
 ·rw[hf,if_pos rfl,b8b]at hp;cases hf2:(b1h 47 c.2.1).2.2
  ·rw[hf2,if_neg (by decide)]at hp;have hy:(b1h 47 c.2.1).1=c.2.1:=((c6j 47 c.2.1).1 hf2).2.1;rw[hy]at hp;obtain⟨A,B,rfl,hA,hB⟩:∃A B,ps=[A,B]/\A.data.toList=c.1/\B.data.toList=c.2.1:=by
    obtain⟨A,q,rfl,hA,hq⟩:=List.map_eq_cons_iff.1 hp;obtain⟨B,rfl,hB⟩:=List.map_eq_singleton_iff.1 hq;exact⟨A,B,rfl,hA,hB⟩
   have hd:=hDig A (by simp);have hr:=hRead A (by simp);have hd2:=hDig B (by simp);have hr2:=hRead B (by simp);rw[hA]at hd hr;rw[hB]at hd2 hr2;have l1:¬(((List.length [A,B]:Nat):Int)>2):=by simp
   have l2:(0:Int)<((List.length [A,B]:Nat):Int):=by simp
   have l3:(((List.length [A,B]:Nat):Int)==1)=false:=rfl;have l4:(1:Int)<((List.length [A,B]:Nat):Int):=by simp
   simp only[l1,l2,l3,l4,decide_true,decide_false,if_true,if_false,Bool.false_eq_true,List.getD_cons_zero,List.getD_cons_succ];rw[hd,Option.bind_some];dsimp only;cases hok:okN c.1
   ·rw[if_pos (show(!false)=true by rfl),if_neg (fun q=>by cases q.1)]
   ·rw[if_neg (show ¬((!true)=true) by decide),hr hok,Option.bind_some];dsimp only;have la:=b6x (B:=B10) (by decide) (c8b hok);have hrest:∀(m:Bool),¬(m=true/\dv c.1=0)->(Option.bind (S.a0x (B,())) (fun(w0:(Bool×Unit))=>(if((!w0.1)=true)then(some ((rp B10 noQ.1,noQ.2),()))
 else(Option.bind (S.a0s (B,())) (fun(w1:((List Int)×Unit))=>(Option.bind (S.a0o (w1.1,(((1:Int)::([]:List Int)),()))) (fun(w2:(Int×Unit))=>(if((decide (w2.1<=(0:Int)))=true)then(some ((rp B10 noQ.1,noQ.2),()))
 else(Option.bind (S.a3g (nd B10 (dv c.1),(w1.1,()))) (fun(w3:((List Int)×Unit))=>(Option.bind (S.a0o (w3.1,(((1:Int)::([]:List Int)),()))) (fun(w4:(Int×Unit))=>(if((w4.1 != (0:Int))=true)then(some ((rp B10 noQ.1,noQ.2),()))
 else(some (((m,(nd B10 (dv c.1),w1.1)),true),())))))))))))))))=some ((rp B10 (if okN c.2.1=true/\1<dv c.2.1/\Nat.gcd (dv c.1) (dv c.2.1)=1 then((m,(dv c.1,dv c.2.1)),true)else noQ).1,(if okN c.2.1=true/\1<dv c.2.1/\Nat.gcd (dv c.1) (dv c.2.1)=1 then((m,(dv c.1,dv c.2.1)),true)else noQ).2),()):=by
     intro m hm;rw[hd2,Option.bind_some];dsimp only;cases hb:okN c.2.1
     ·have hx:¬((false:Bool)=true/\1<dv c.2.1/\Nat.gcd (dv c.1) (dv c.2.1)=1):=fun q=>by cases q.1
      rw[if_pos (show(!false)=true by rfl),if_neg hx]
     ·have lb:=b6x (B:=B10) (by decide) (c8b hb);rw[if_neg (show ¬((!true)=true) by decide),hr2 hb,Option.bind_some];dsimp only;have e1:S.a0o (nd B10 (dv c.2.1),([1],()))=some (b1d (dv c.2.1) 1,()):=by
       unfold S.a0o;dsimp only;rw[if_pos ⟨a0m a0d _,b6w a0d,by omega⟩,a0i a0d,b8a]
      have e2:S.a3g (nd B10 (dv c.1),(nd B10 (dv c.2.1),()))=some (nd B10 (Nat.gcd (dv c.1) (dv c.2.1)),()):=by
       unfold S.a3g;dsimp only;rw[if_pos ⟨a0m a0d _,a0m a0d _,by omega,by omega⟩,a0i a0d,a0i a0d]
      rw[e1,Option.bind_some];dsimp only
      by_cases h1:1<dv c.2.1
      ·have hcm:¬(b1d (dv c.2.1) 1<=0):=by
        have:=(c6i (a:=dv c.2.1) (b:=1)).2 h1;omega
       have lg:(nd B10 (Nat.gcd (dv c.1) (dv c.2.1))).length<=200:=Nat.le_trans (a6n a0d (Nat.le_of_dvd (by omega) (Nat.gcd_dvd_right _ _))) lb;have e3:S.a0o (nd B10 (Nat.gcd (dv c.1) (dv c.2.1)),([1],()))=some (b1d (Nat.gcd (dv c.1) (dv c.2.1)) 1,()):=by
        unfold S.a0o;dsimp only;rw[if_pos ⟨a0m a0d _,b6w a0d,by omega⟩,a0i a0d,b8a]
       rw[if_neg (by simpa using hcm),e2,Option.bind_some];dsimp only;rw[e3,Option.bind_some];dsimp only
       by_cases hg:Nat.gcd (dv c.1) (dv c.2.1)=1
       ·rw[if_neg (by simpa using a4v.2 hg),if_pos ⟨rfl,h1,hg⟩];rfl
       ·rw[if_pos (by simpa using fun q=>hg (a4v.1 q)),if_neg (fun q=>hg q.2.2)]
      ·have hcm:b1d (dv c.2.1) 1<=0:=by
        have h2:¬(b1d (dv c.2.1) 1>0):=fun q=>h1 ((c6i (a:=dv c.2.1) (b:=1)).1 q)
        omega
       rw[if_pos (decide_eq_true hcm),if_neg (fun q=>h1 q.2.1)]
    rw[hz];cases n
    ·have hm:¬((false:Bool)=true/\dv c.1=0):=fun q=>by cases q.1
     rw[if_neg (show ¬((false:Bool)=true) by decide),if_pos ⟨rfl,hm⟩];exact hrest false hm
    ·rw[if_pos rfl]
     by_cases h0:dv c.1=0
     ·rw[if_pos (decide_eq_true h0),if_neg (fun q=>q.2 ⟨rfl,h0⟩)]
     ·have hm:¬((true:Bool)=true/\dv c.1=0):=fun q=>h0 q.2
      rw[if_neg (by simpa using h0),if_pos ⟨rfl,hm⟩];exact hrest true hm
  ·
   rw[hf2,if_pos rfl]at hp;have hl:ps.length=2+(a5e 47 (b1h 47 c.2.1).2.1).length:=by
    have:=congrArg List.length hp;simp at this;omega
   have hl2:(a5e 47 (b1h 47 c.2.1).2.1).length≠0:=fun q=>b9t 47 _ (List.eq_nil_of_length_eq_zero q)
   have l1:((ps.length:Nat):Int)>2:=by omega
   have hx:¬(okN c.2.1=true/\1<dv c.2.1/\Nat.gcd (dv c.1) (dv c.2.1)=1):=fun q=>by
    have:=e4l (c1g q.1).1;rw[hf2]at this;cases this
   rw[if_pos (decide_eq_true l1),if_pos rfl,if_neg hx];split<;>rfl
theorem g5t (T:ByteArray) (hsz:T.size<=1000000):
  (Option.bind (S.a8c (T,((47:Int),()))) (fun(z0:((List ByteArray)×Unit))=>(if((decide (((List.length z0.1):Int)>(2:Int)))=true)then(some (((false,(([]:List Int),([]:List Int))),false),()))
 else(if((decide ((0:Int)<((List.length z0.1):Int)))=true)then(Option.bind (S.a0x ((List.getD z0.1 (0:Nat) (Go.Cm.bs [])),())) (fun(z1:(Bool×Unit))=>(if((!z1.1)=true)then(some (((false,(([]:List Int),([]:List Int))),false),()))
 else(if((decide ((0:Int)<((List.length z0.1):Int)))=true)then(Option.bind (S.a0s ((List.getD z0.1 (0:Nat) (Go.Cm.bs [])),())) (fun(z2:((List Int)×Unit))=>(if((((List.length z0.1):Int)==(1:Int))=true)then(some (((false,(z2.1,((1:Int)::([]:List Int)))),true),()))
 else(if((decide ((1:Int)<((List.length z0.1):Int)))=true)then(Option.bind (S.a0x ((List.getD z0.1 (1:Nat) (Go.Cm.bs [])),())) (fun(z3:(Bool×Unit))=>(if((!z3.1)=true)then(some (((false,(([]:List Int),([]:List Int))),false),()))
 else(if((decide ((1:Int)<((List.length z0.1):Int)))=true)then(Option.bind (S.a0s ((List.getD z0.1 (1:Nat) (Go.Cm.bs [])),())) (fun(z4:((List Int)×Unit))=>(Option.bind (S.a0o (z4.1,(((1:Int)::([]:List Int)),()))) (fun(z5:(Int×Unit))=>(if((decide (z5.1<=(0:Int)))=true)then(some (((false,(([]:List Int),([]:List Int))),false),()))
 else(Option.bind (S.a3g (z2.1,(z4.1,()))) (fun(z6:((List Int)×Unit))=>(Option.bind (S.a0o (z6.1,(((1:Int)::([]:List Int)),()))) (fun(z7:(Int×Unit))=>(if((z7.1 != (0:Int))=true)then(some (((false,(([]:List Int),([]:List Int))),false),()))
 else(some (((false,(z2.1,z4.1)),true),()))))))))))))
 else none))))
 else none))))
 else none))))
 else none))))=some ((rp B10 (a6a false (b1h 47 T.data.toList)).1,(a6a false (b1h 47 T.data.toList)).2),()):=by
 have hbad:((false,(([]:List Int),([]:List Int))),false)=(rp B10 noQ.1,noQ.2):=by
  unfold noQ rp;dsimp only;rw[a1t a0d]
 have hcut:S.a8c (T,(47,()))=some ((a9n T 47 (T.size+1)).1,()):=by
  unfold S.a8c;exact if_pos hsz
 have hp:(a9n T 47 (T.size+1)).1.map (·.data.toList)=a5e 47 T.data.toList:=c7y T 47;have hlen:∀A∈(a9n T 47 (T.size+1)).1,A.data.toList.length<=1000000:=by
  intro A hA;have h1:=d7j 47 T.data.toList A.data.toList (by rw[<-hp];exact List.mem_map_of_mem hA);have h2:T.size=T.data.toList.length:=by rw[Array.length_toList];rfl
  omega
 rw[hcut,Option.bind_some,hbad];generalize (a9n T 47 (T.size+1)).1=ps at*;rw[b8b]at hp;generalize hc:b1h 47 T.data.toList=c at*;have hDig:∀A∈ps,S.a0x (A,())=some (okN A.data.toList,()):=by
  intro A hA;have h1:=hlen A hA;have h2:A.size=A.data.toList.length:=by rw[Array.length_toList];rfl
  unfold S.a0x;exact if_pos (by dsimp only;omega)
 have hRead:∀A∈ps,okN A.data.toList=true->S.a0s (A,())=some (nd B10 (dv A.data.toList),()):=by
  intro A hA hok;have h1:=c1g hok;unfold S.a0s;exact if_pos ⟨h1.1,by dsimp only;omega⟩
 have hz:∀m:Nat,(((nd B10 m).length:Int)==0)=decide (m=0):=by
  intro m;have:=a9t a0d (a0m a0d m);rw[a0i a0d]at this
  by_cases h0:m=0
  ·rw[this.2 h0,h0];rfl
  ·have hne:=fun q=>h0 (this.1 q)
   rw[decide_eq_false h0];simpa using hne
 have hone:([1]:List Int)=nd B10 1:=(e4k a0d).symm;unfold a6a;cases hf:c.2.2
 ·
  rw[hf,if_neg (by decide)]at hp;obtain⟨A,rfl,hA⟩:∃A,ps=[A]/\A.data.toList=c.1:=by
   exact List.map_eq_singleton_iff.1 hp
  have hd:=hDig A (by simp);have hr:=hRead A (by simp);rw[hA]at hd hr;have l1:¬(((List.length [A]:Nat):Int)>2):=by simp
  have l2:(0:Int)<((List.length [A]:Nat):Int):=by simp
  have l3:(((List.length [A]:Nat):Int)==1)=true:=rfl;simp only[l1,l2,l3,decide_true,decide_false,if_true,if_false,Bool.false_eq_true,List.getD_cons_zero];rw[hd,Option.bind_some];dsimp only;cases hok:okN c.1
  ·rw[if_pos (show(!false)=true by rfl),if_neg (fun q=>by cases q.1)]
  ·rw[if_neg (show ¬((!true)=true) by decide),hr hok,Option.bind_some];dsimp only;rw[if_pos ⟨rfl,fun q=>by cases q.1⟩,hone];rfl
 ·rw[hf,if_pos rfl,b8b]at hp;cases hf2:(b1h 47 c.2.1).2.2
  ·rw[hf2,if_neg (by decide)]at hp;have hy:(b1h 47 c.2.1).1=c.2.1:=((c6j 47 c.2.1).1 hf2).2.1;rw[hy]at hp;obtain⟨A,B,rfl,hA,hB⟩:∃A B,ps=[A,B]/\A.data.toList=c.1/\B.data.toList=c.2.1:=by
    obtain⟨A,q,rfl,hA,hq⟩:=List.map_eq_cons_iff.1 hp;obtain⟨B,rfl,hB⟩:=List.map_eq_singleton_iff.1 hq;exact⟨A,B,rfl,hA,hB⟩
   have hd:=hDig A (by simp);have hr:=hRead A (by simp);have hd2:=hDig B (by simp);have hr2:=hRead B (by simp);rw[hA]at hd hr;rw[hB]at hd2 hr2;have l1:¬(((List.length [A,B]:Nat):Int)>2):=by simp
   have l2:(0:Int)<((List.length [A,B]:Nat):Int):=by simp
   have l3:(((List.length [A,B]:Nat):Int)==1)=false:=rfl;have l4:(1:Int)<((List.length [A,B]:Nat):Int):=by simp
   simp only[l1,l2,l3,l4,decide_true,decide_false,if_true,if_false,Bool.false_eq_true,List.getD_cons_zero,List.getD_cons_succ];rw[hd,Option.bind_some];dsimp only;cases hok:okN c.1
   ·rw[if_pos (show(!false)=true by rfl),if_neg (fun q=>by cases q.1)]
   ·rw[if_neg (show ¬((!true)=true) by decide),hr hok,Option.bind_some];dsimp only;have la:=b6x (B:=B10) (by decide) (c8b hok);have hrest:∀(m:Bool),¬(m=true/\dv c.1=0)->(Option.bind (S.a0x (B,())) (fun(w0:(Bool×Unit))=>(if((!w0.1)=true)then(some ((rp B10 noQ.1,noQ.2),()))
 else(Option.bind (S.a0s (B,())) (fun(w1:((List Int)×Unit))=>(Option.bind (S.a0o (w1.1,(((1:Int)::([]:List Int)),()))) (fun(w2:(Int×Unit))=>(if((decide (w2.1<=(0:Int)))=true)then(some ((rp B10 noQ.1,noQ.2),()))
 else(Option.bind (S.a3g (nd B10 (dv c.1),(w1.1,()))) (fun(w3:((List Int)×Unit))=>(Option.bind (S.a0o (w3.1,(((1:Int)::([]:List Int)),()))) (fun(w4:(Int×Unit))=>(if((w4.1 != (0:Int))=true)then(some ((rp B10 noQ.1,noQ.2),()))
 else(some (((m,(nd B10 (dv c.1),w1.1)),true),())))))))))))))))=some ((rp B10 (if okN c.2.1=true/\1<dv c.2.1/\Nat.gcd (dv c.1) (dv c.2.1)=1 then((m,(dv c.1,dv c.2.1)),true)else noQ).1,(if okN c.2.1=true/\1<dv c.2.1/\Nat.gcd (dv c.1) (dv c.2.1)=1 then((m,(dv c.1,dv c.2.1)),true)else noQ).2),()):=by
     intro m hm;rw[hd2,Option.bind_some];dsimp only;cases hb:okN c.2.1
     ·have hx:¬((false:Bool)=true/\1<dv c.2.1/\Nat.gcd (dv c.1) (dv c.2.1)=1):=fun q=>by cases q.1
      rw[if_pos (show(!false)=true by rfl),if_neg hx]
     ·have lb:=b6x (B:=B10) (by decide) (c8b hb);rw[if_neg (show ¬((!true)=true) by decide),hr2 hb,Option.bind_some];dsimp only;have e1:S.a0o (nd B10 (dv c.2.1),([1],()))=some (b1d (dv c.2.1) 1,()):=by
       unfold S.a0o;dsimp only;rw[if_pos ⟨a0m a0d _,b6w a0d,by omega⟩,a0i a0d,b8a]
      have e2:S.a3g (nd B10 (dv c.1),(nd B10 (dv c.2.1),()))=some (nd B10 (Nat.gcd (dv c.1) (dv c.2.1)),()):=by
       unfold S.a3g;dsimp only;rw[if_pos ⟨a0m a0d _,a0m a0d _,by omega,by omega⟩,a0i a0d,a0i a0d]
      rw[e1,Option.bind_some];dsimp only
      by_cases h1:1<dv c.2.1
      ·have hcm:¬(b1d (dv c.2.1) 1<=0):=by
        have:=(c6i (a:=dv c.2.1) (b:=1)).2 h1;omega
       have lg:(nd B10 (Nat.gcd (dv c.1) (dv c.2.1))).length<=200:=Nat.le_trans (a6n a0d (Nat.le_of_dvd (by omega) (Nat.gcd_dvd_right _ _))) lb;have e3:S.a0o (nd B10 (Nat.gcd (dv c.1) (dv c.2.1)),([1],()))=some (b1d (Nat.gcd (dv c.1) (dv c.2.1)) 1,()):=by
        unfold S.a0o;dsimp only;rw[if_pos ⟨a0m a0d _,b6w a0d,by omega⟩,a0i a0d,b8a]
       rw[if_neg (by simpa using hcm),e2,Option.bind_some];dsimp only;rw[e3,Option.bind_some];dsimp only
       by_cases hg:Nat.gcd (dv c.1) (dv c.2.1)=1
       ·rw[if_neg (by simpa using a4v.2 hg),if_pos ⟨rfl,h1,hg⟩];rfl
       ·rw[if_pos (by simpa using fun q=>hg (a4v.1 q)),if_neg (fun q=>hg q.2.2)]
      ·have hcm:b1d (dv c.2.1) 1<=0:=by
        have h2:¬(b1d (dv c.2.1) 1>0):=fun q=>h1 ((c6i (a:=dv c.2.1) (b:=1)).1 q)
        omega
       rw[if_pos (decide_eq_true hcm),if_neg (fun q=>h1 q.2.1)]
    have hm:¬((false:Bool)=true/\dv c.1=0):=fun q=>by cases q.1
    rw[if_pos ⟨rfl,fun q=>q.1⟩];exact hrest false hm
  ·
   rw[hf2,if_pos rfl]at hp;have hl:ps.length=2+(a5e 47 (b1h 47 c.2.1).2.1).length:=by
    have:=congrArg List.length hp;simp at this;omega
   have hl2:(a5e 47 (b1h 47 c.2.1).2.1).length≠0:=fun q=>b9t 47 _ (List.eq_nil_of_length_eq_zero q)
   have l1:((ps.length:Nat):Int)>2:=by omega
   have hx:¬(okN c.2.1=true/\1<dv c.2.1/\Nat.gcd (dv c.1) (dv c.2.1)=1):=fun q=>by
    have:=e4l (c1g q.1).1;rw[hf2]at this;cases this
   rw[if_pos (decide_eq_true l1),if_pos rfl,if_neg hx];split<;>rfl
def S.b4j (x:(ByteArray×Unit)):(Option ((RB×Bool)×Unit)):=if x.1.size<=1000000 then some ((rp B10 (a5q x.1.data.toList).1,(a5q x.1.data.toList).2),())else none
theorem S.e1q (x r) (h:S.b4j x=some r):∃k,P.c7k k x=some r:=by
 obtain⟨s,u⟩:=x;unfold S.b4j at h;dsimp only at h;split at h
 case isFalse=>cases h
 rename_i hsz;refine⟨0,?_⟩;rw[<-h];unfold P.c7k;dsimp only;have hs:s.size=s.data.toList.length:=by rw[Array.length_toList];rfl
 unfold a5q
 by_cases h0:s.data.toList=[]
 ·have l1:¬((s.size:Int)>0):=by rw[hs,h0];simp
  rw[if_neg (by simpa using l1),h0,if_neg (by simp),<-h0];exact g5t s hsz
 ·have hpos:0<s.data.toList.length:=List.length_pos_iff.2 h0;have l1:(s.size:Int)>0:=by omega
  have l2:(0:Int)<(s.size:Int):=by omega
  have l3:(0:Int)<=(s.size:Int):=by omega
  have l4:(1:Int)<=(s.size:Int):=by omega
  have hb:a2h s 0=(s.data.toList[0].toNat:Int):=congrArg (fun c:UInt8=>(c.toNat:Int)) (a0n s.data.toList 0 0 hpos);have hh:s.data.toList.head? =some s.data.toList[0]:=by
   generalize s.data.toList=l at*;cases l with
   |nil=>simp at h0
   |cons c r=>rfl
  rw[if_pos (decide_eq_true l1),if_pos (decide_eq_true l2),hh,Int.toNat_natCast]
  by_cases c1:s.data.toList[0]=45
  ·have hn:(a2h s 0==45)=true:=by
    rw[hb,c1];rfl
   have hx:(ByteArray.extract s 1 s.size).data.toList=s.data.toList.tail:=by
    rw[d9w,List.take_of_length_le (by omega),List.drop_one]
   have hxs:(ByteArray.extract s 1 s.size).size<=1000000:=by
    have:(ByteArray.extract s 1 s.size).size=(ByteArray.extract s 1 s.size).data.toList.length:=by rw[Array.length_toList];rfl
    rw[this,hx];simp;omega
   rw[hn,if_pos rfl,if_pos (decide_eq_true l3),if_pos (decide_eq_true (Int.le_refl _)),if_pos (decide_eq_true l4),if_pos (by rw[c1])];have:=g0t (ByteArray.extract s 1 s.size) true hxs;rw[hx]at this;exact this
  ·have hn:(a2h s 0==45)=false:=by
    rw[hb,beq_eq_false_iff_ne];intro q;apply c1;apply UInt8.toNat_inj.1;show _=45;omega
   rw[hn,if_neg (show ¬((false:Bool)=true) by decide),if_neg (by rw[Option.some.injEq];exact c1)];exact g0t s false hsz
abbrev P.b6d (x1:Int×Int×List ByteArray×List RB×Unit) (g2:Int×Int×List ByteArray×List RB×Unit->Option ((List RB×Bool)×Unit)):Option ((List RB×Bool)×Unit):=
 if decide (x1.1<x1.2.1)then if decide (0<=x1.1)then if decide (x1.1<(x1.2.2.1.length:Int))then(S.b4j (x1.2.2.1.getD x1.1.toNat (bs []),())).bind fun y3=>if !y3.1.2 then some (([],false),())else if decide (((x1.2.2.2.1.length+(List.length [(y3.1.1.1,y3.1.1.2.1,y3.1.1.2.2)]))*56)<=140737488355328)then g2 (wrap .i64 (x1.1+1),x1.2.1,x1.2.2.1,x1.2.2.2.1++[(y3.1.1.1,y3.1.1.2.1,y3.1.1.2.2)],())else none else none else none else some ((x1.2.2.2.1,true),())
def P.d3y (k:Nat) (x:List ByteArray×Unit):Option ((List RB×Bool)×Unit):=
 if decide ((x.1.length:Int)>300)then some (([],false),())else loopP P.b6d k (0,(x.1.length:Int),x.1,[],())
open Classical in
def S.b7d (x:((List ByteArray)×Unit)):(Option (((List RB)×Bool)×Unit)):=if okT x.1=true then some (((a2x x.1).1.map (rp B10),(a2x x.1).2),())else none
theorem d6p (s:ByteArray) (h:s.size<=1000000):S.b4j (s,())=some ((rp B10 (a5q s.data.toList).1,(a5q s.data.toList).2),()):=by
 unfold S.b4j;exact if_pos (by dsimp only;omega)
theorem S.e7f (x r) (h:S.b7d x=some r):∃k,P.d3y k x=some r:=by
 obtain⟨ls,u⟩:=x;unfold S.b7d at h;dsimp only at h;split at h
 case isFalse=>cases h
 rename_i hc;cases h;refine⟨ls.length+1,?_⟩;unfold P.d3y a2x;dsimp only
 by_cases hl:(ls.length:Int)>300
 ·rw[if_pos (decide_eq_true hl),if_neg (show ¬(ls.length<=300/\(ls.all fun s=>(a5q s.data.toList).2)=true)from fun z=>by omega)];rfl
 rw[if_neg (by simpa using hl)];have key:=a0f (k:=ls.length+1) (b:=P.b6d) (n:=ls.length) (st:=fun i=>((i:Int),(ls.length:Int),ls,(ls.take i).map (fun s=>rp B10 (a5q s.data.toList).1),())) (F:=fun i=>some (if((ls.drop i).all fun s=>(a5q s.data.toList).2)=true then(ls.map (fun s=>rp B10 (a5q s.data.toList).1),true)else([],false),())) (fun i g hi hg=>by
  unfold P.b6d;dsimp only at hg ⊢;have e1:(i:Int)<(ls.length:Int):=by omega
  have e2:(0:Int)<=(i:Int):=by omega
  simp only[e1,e2,decide_true,if_true];rw[a0n ls i _ hi,d6p _ (f9i hc hi),Option.bind_some,List.drop_eq_getElem_cons hi,List.all_cons];dsimp only;cases hf:(a5q ls[i].data.toList).2
  ·rw[if_pos (by rfl),if_neg (by simp)]
  ·rw[if_neg (by simp),wr (by omega) (by omega),Bool.true_and,<-hg];have e3:((List.map (fun s:ByteArray=>rp B10 (a5q s.data.toList).1) (ls.take i)).length+1)*56<=140737488355328:=by
    rw[List.length_map,List.length_take];omega
   simp only[List.length_cons,List.length_nil,Nat.zero_add];rw[if_pos (decide_eq_true e3),List.take_add_one,List.getElem?_eq_getElem hi,Option.toList_some,List.map_append];rfl) (fun g=>by
  unfold P.b6d;dsimp only;rw[if_neg (by simp),List.take_length,List.drop_length];rfl) (by omega)
 refine key.trans ?_;rw[List.drop_zero]
 by_cases ha:(ls.all fun s=>(a5q s.data.toList).2)=true
 ·rw[if_pos ha,if_pos (show ls.length<=300/\(ls.all fun s=>(a5q s.data.toList).2)=true from⟨by omega,ha⟩),List.map_map];rfl
 ·rw[if_neg ha,if_neg (fun z=>ha z.2)];rfl
def P.e1r (k:Nat) (x:Int×Unit):Option (RB×Unit):=
 if decide (x.1<0)then(S.a7c (wrap .i64 (0 - x.1),())).bind fun y0=>some ((true,y0.1,[1]),())else(S.a7c (x.1,())).bind fun y1=>some ((false,y1.1,[1]),())
def S.c4z (x:(Int×Unit)):(Option (RB×Unit)):=if -9223372036854775807<=x.1/\x.1<=9223372036854775807 then some (rp B10 (f9h x.1),())else none
theorem S.f1k (x r) (h:S.c4z x=some r):∃k,P.e1r k x=some r:=by
 obtain⟨n,u⟩:=x;unfold S.c4z at h;dsimp only at h;split at h
 case isFalse=>cases h
 rename_i hc;cases h;refine⟨0,?_⟩;unfold P.e1r S.a7c rp f9h;dsimp only;rw[e4k a0d]
 by_cases h0:n<0
 ·rw[if_pos (decide_eq_true h0),wr (by omega) (by omega),if_pos ⟨by omega,by omega⟩,Option.bind_some,decide_eq_true h0,show(0 - n).toNat=n.natAbs by omega]
 ·rw[if_neg (by simpa using h0),if_pos ⟨by omega,by omega⟩,Option.bind_some,decide_eq_false h0,show n.toNat=n.natAbs by omega]
def P.e1s (k:Nat) (x:Unit):Option (RB×Unit):=
 (S.c4z (1,())).bind fun y0=>some ((y0.1.1,y0.1.2.1,y0.1.2.2),())
def S.b3x (x:Unit):(Option (RB×Unit)):=P.e1s 0 x
theorem S.f1l (x r) (h:S.b3x x=some r):∃k,P.e1s k x=some r:=⟨0,h⟩
abbrev s_l01NatMul.A:=Int×Int×List Int×Int×List Int×List Int×Int×Int×Int×Unit
abbrev s_l01NatMul.B:=Int×Int×List Int×List Int×List Int×Unit
abbrev s_l01NatMul.C:=Option (List Int×Unit)
abbrev P.a7w (g2:s_l01NatMul.B->s_l01NatMul.C) (x4:s_l01NatMul.A) (g5:s_l01NatMul.A->s_l01NatMul.C):s_l01NatMul.C:=
 (fun(a b d h i j:Int) (c e f:List Int)=>if decide (a<b)then if decide (0<=(wrap .i64 (d+a)))then if decide ((wrap .i64 (d+a))<(c.length:Int))then if decide (0<=d)then if decide (d<(e.length:Int))then if decide (0<=a)then if decide (a<(f.length:Int))then if decide (0<=(wrap .i64 (d+a)))then if decide ((wrap .i64 (d+a))<(c.length:Int))then g5 (wrap .i64 (a+1),b,c.set (0+(Int.toNat (wrap .i64 (d+a)))) (Int.tmod (wrap .i64 ((wrap .i64 ((c.getD (0+(Int.toNat (wrap .i64 (d+a)))) 0)+(wrap .i64 ((e.getD d.toNat 0)*(f.getD a.toNat 0)))))+h)) 1000000000),d,e,f,wrap .i64 (Int.tdiv (wrap .i64 ((wrap .i64 ((c.getD (0+(Int.toNat (wrap .i64 (d+a)))) 0)+(wrap .i64 ((e.getD d.toNat 0)*(f.getD a.toNat 0)))))+h)) 1000000000),i,j,())else none else none else none else none else none else none else none else none else if decide (0<=(wrap .i64 (d+(f.length:Int))))then if decide ((wrap .i64 (d+(f.length:Int)))<(c.length:Int))then if decide (0<=(wrap .i64 (d+(f.length:Int))))then if decide ((wrap .i64 (d+(f.length:Int)))<(c.length:Int))then g2 (wrap .i64 (i+1),j,f,c.set (0+(Int.toNat (wrap .i64 (d+(f.length:Int))))) (wrap .i64 ((c.getD (0+(Int.toNat (wrap .i64 (d+(f.length:Int))))) 0)+h)),e,())else none else none else none else none) x4.1 x4.2.1 x4.2.2.2.1 x4.2.2.2.2.2.2.1 x4.2.2.2.2.2.2.2.1 x4.2.2.2.2.2.2.2.2.1 x4.2.2.1 x4.2.2.2.2.1 x4.2.2.2.2.2.1
abbrev P.b2e (k:Nat) (x1:s_l01NatMul.B) (g2:s_l01NatMul.B->s_l01NatMul.C):s_l01NatMul.C:=
 if decide (x1.1<x1.2.1)then loopP (P.a7w g2) k (0,(x1.2.2.1.length:Int),x1.2.2.2.1,x1.1,x1.2.2.2.2.1,x1.2.2.1,0,x1.1,x1.2.1,())else(S.a3x (x1.2.2.2.1,())).bind fun y6=>some (y6.1,())
def P.c3b (k:Nat) (x:List Int×List Int×Unit):s_l01NatMul.C:=
 if decide (0<=(wrap .i64 ((x.1.length:Int)+(x.2.1.length:Int))))then if decide ((wrap .i64 ((x.1.length:Int)+(x.2.1.length:Int)))<=(wrap .i64 ((x.1.length:Int)+(x.2.1.length:Int))))then if decide (((wrap .i64 ((x.1.length:Int)+(x.2.1.length:Int)))*8)<=281474976710656)then loopP (P.b2e k) k (0,(x.1.length:Int),x.2.1,List.replicate (Int.toNat (wrap .i64 ((x.1.length:Int)+(x.2.1.length:Int)))) 0,x.1,())else none else none else none
theorem g5u (g:(Int×(Int×((List Int)×((List Int)×((List Int)×Unit)))))->(Option ((List Int)×Unit))) (F:Option ((List Int)×Unit)) {xs ys:List Int} (hx:dig B10 xs=true) (hy:dig B10 ys=true) (hlx:xs.length<=10000000000) (hly:ys.length<=10000000000) {i:Nat} (hi:i<xs.length) (K:Nat) (hK:ys.length<K)
  (hg:g (((i+1:Nat):Int),((xs.length:Int),(ys,(fd B10 (xs.length+ys.length) (a0c B10 (xs.take (i+1))*a0c B10 ys),(xs,())))))=F):
  loopP (P.a7w g) K ((0:Int),((ys.length:Int),(fd B10 (xs.length+ys.length) (a0c B10 (xs.take i)*a0c B10 ys),((i:Int),(xs,(ys,((0:Int),((i:Int),((xs.length:Int),())))))))))=F:=by
 have hA:=b6v a0d hx hy i (by omega);have hA':=b6v a0d hx hy (i+1) (by omega);have gx:=a1b (B:=B10) (by decide) hx i;have gx1:xs.getD i 0<1000000000:=gx.2;have gx0:=gx.1;rw[a2l,Nat.add_mul,Nat.mul_assoc]at hg hA';generalize a0c B10 (xs.take i)*a0c B10 ys=A at*;obtain⟨x,hxe⟩:∃x:Nat,xs.getD i 0=(x:Int):=⟨(xs.getD i 0).toNat,by omega⟩
 rw[hxe,Int.toNat_natCast]at hg hA';rw[hxe]at gx1;have hxB:x<B10:=by show x<1000000000;omega
 have hsh:=e4j a0d hi hA;rw[hsh];have hlw:(fd B10 ys.length (A/B10^i)).length=ys.length:=a3c _ _ _;have hdw:dig B10 (fd B10 ys.length (A/B10^i))=true:=b5u (by decide) _ _;have hvw:a0c B10 (fd B10 ys.length (A/B10^i))=A/B10^i:=by
  rw[b7y,Nat.mod_eq_of_lt];rw[Nat.div_lt_iff_lt_mul (Nat.pow_pos (by decide)),<-Nat.pow_add,Nat.add_comm];exact hA
 have hnext:=f2u a0d (la:=xs.length) (lb:=ys.length) (R:=x*a0c B10 ys) hi hA';generalize hR:List.replicate (xs.length - 1 - i) (0:Int)=R at*;have hRl:R.length=xs.length - 1 - i:=by rw[<-hR,List.length_replicate]
 generalize hW:fd B10 ys.length (A/B10^i)=W at*;have hl0:(fd B10 i A).length=i:=a3c _ _ _;have key:=a0f (k:=K) (b:=P.a7w g) (n:=ys.length) (st:=fun k=>((k:Int),(ys.length:Int),(fd B10 i A++(b9b B10 x W ys k).1)++(W.drop k++(0:Int)::R),(i:Int),xs,ys,((b9b B10 x W ys k).2:Int),(i:Int),(xs.length:Int),())) (F:=fun k=>F) (fun k g' hk hg'=>by
  unfold P.a7w;dsimp only at hg' ⊢;refine Eq.trans ?_ hg';clear hg';obtain⟨q1,q2,q3,q4⟩:=d9s (x:=x) a0d hxB hdw hy k;have q4':(b9b B10 x W ys k).2<1000000000:=q4;have gy:=a1b (B:=B10) (by decide) hy k;have gw:=a1b (B:=B10) (by decide) hdw k;have gy1:ys.getD k 0<1000000000:=gy.2;have gw1:W.getD k 0<1000000000:=gw.2;have gy0:=gy.1;have gw0:=gw.1;have hAl:(fd B10 i A++(b9b B10 x W ys k).1).length=i+k:=by rw[List.length_append,hl0,q2]
  have hlen:((fd B10 i A++(b9b B10 x W ys k).1)++(W.drop k++(0:Int)::R)).length=xs.length+ys.length:=by
   rw[List.length_append,hAl,List.length_append,List.length_drop,List.length_cons,hlw,hRl];omega
  have e1:(k:Int)<(ys.length:Int):=by omega
  have e2:(0:Int)<=(k:Int):=by omega
  have e3:(0:Int)<=((i+k:Nat):Int):=by omega
  have e4:((i+k:Nat):Int)<((xs.length+ys.length:Nat):Int):=by omega
  have e5:(0:Int)<=(i:Int):=by omega
  have e6:(i:Int)<(xs.length:Int):=by omega
  rw[hlen,<-Int.natCast_add i k,wr (x:=((i+k:Nat):Int)) (by omega) (by omega)];simp only[e1,e2,e3,e4,e5,e6,decide_true,if_true,Nat.zero_add,Int.toNat_natCast];rw[a2w (xs:=W) (i:=k) (by omega),List.cons_append,b1g hAl,hxe];simp only[b3e hAl];rw[b9b];dsimp only;generalize W.getD k 0=w at*;generalize ys.getD k 0=y at*;generalize b9b B10 x W ys k=p at*;obtain⟨pl,c0⟩:=p;dsimp only at*;obtain⟨Y,rfl⟩:∃Y:Nat,y=(Y:Int):=⟨y.toNat,by omega⟩
  obtain⟨w',rfl⟩:∃Y:Nat,w=(Y:Int):=⟨w.toNat,by omega⟩
  rw[Int.toNat_natCast,Int.toNat_natCast];have hxY:x*Y<=999999999*999999999:=Nat.mul_le_mul (by omega) (by omega);rw[<-Int.natCast_mul,wr (x:=((x*Y:Nat):Int)) (by omega) (by omega),<-Int.natCast_add,wr (x:=((w'+x*Y:Nat):Int)) (by omega) (by omega),<-Int.natCast_add,wr (x:=((w'+x*Y+c0:Nat):Int)) (by omega) (by omega),Int.tdiv_eq_ediv_of_nonneg (by omega),Int.tmod_eq_emod_of_nonneg (by omega),wr (x:=(k:Int)+1) (by omega) (by omega)];have e8:((w'+x*Y+c0:Nat):Int)%1000000000=(((c0+(x*Y+w'))%B10:Nat):Int):=by
   show _=(((c0+(x*Y+w'))%1000000000:Nat):Int)
   omega
  have e9:((w'+x*Y+c0:Nat):Int)/1000000000=(((c0+(x*Y+w'))/B10:Nat):Int):=by
   show _=(((c0+(x*Y+w'))/1000000000:Nat):Int)
   omega
  have e10:(c0+(x*Y+w'))/B10<=4000000000:=by
   show(c0+(x*Y+w'))/1000000000<=_;omega
  rw[e8,e9,wr (x:=(((c0+(x*Y+w'))/B10:Nat):Int)) (by omega) (by omega),<-List.append_assoc (fd B10 i A)];rfl) (fun g'=>by
  unfold P.a7w;dsimp only;obtain⟨q1,q2,q3,q4⟩:=d9s (x:=x) a0d hxB hdw hy ys.length;have q4':(b9b B10 x W ys ys.length).2<1000000000:=q4;rw[List.take_length,<-hlw,List.take_length,hlw,hvw]at q3;have hAl:(fd B10 i A++(b9b B10 x W ys ys.length).1).length=i+ys.length:=by rw[List.length_append,hl0,q2]
  have hlen:((fd B10 i A++(b9b B10 x W ys ys.length).1)++(W.drop ys.length++(0:Int)::R)).length=xs.length+ys.length:=by
   rw[List.length_append,hAl,List.length_append,List.length_drop,List.length_cons,hlw,hRl];omega
  have e1:¬((ys.length:Int)<(ys.length:Int)):=by omega
  have e3:(0:Int)<=((i+ys.length:Nat):Int):=by omega
  have e4:((i+ys.length:Nat):Int)<((xs.length+ys.length:Nat):Int):=by omega
  rw[hlen,<-Int.natCast_add i ys.length,wr (x:=((i+ys.length:Nat):Int)) (by omega) (by omega)];simp only[e1,e3,e4,decide_true,decide_false,if_true,if_false,Bool.false_eq_true,Nat.zero_add,Int.toNat_natCast];rw[List.drop_of_length_le (by omega),List.nil_append,b1g hAl,b3e hAl,Int.zero_add,wr (x:=((b9b B10 x W ys ys.length).2:Int)) (by omega) (by omega),wr (x:=(i:Int)+1) (by omega) (by omega)];generalize b9b B10 x W ys ys.length=p at*;obtain⟨pl,c0⟩:=p;dsimp only at*;have hlt:=a1n q1;rw[q2]at hlt;have hpl:pl=fd B10 ys.length (A/B10^i+x*a0c B10 ys):=by
   have:=f4v a0d q1 q2 rfl;rw[this,<-q3,<-c1t B10 ys.length (_+_),Nat.add_mul_mod_self_left,c1t]
  have hc0:c0=(A/B10^i+x*a0c B10 ys)/B10^ys.length:=by
   rw[<-q3,Nat.add_mul_div_left _ _ (Nat.pow_pos (by decide)),Nat.div_eq_of_lt hlt,Nat.zero_add]
  rw[List.append_assoc _ [_],List.singleton_append,hpl,hc0,hnext];exact hg) hK
 rw[show(fd B10 i A++(b9b B10 x W ys 0).1)++(W.drop 0++(0:Int)::R)=(fd B10 i A++W)++(0:Int)::R by rw[show(b9b B10 x W ys 0).1=[]from rfl,List.append_nil,List.drop_zero,List.append_assoc]]at key;exact key
def S.a1f (x:((List Int)×((List Int)×Unit))):(Option ((List Int)×Unit)):=if dig B10 x.1=true/\dig B10 x.2.1=true/\x.1.length<=10000000000/\x.2.1.length<=10000000000 then some (nd B10 (a0c B10 x.1*a0c B10 x.2.1),())else none
theorem S.d6q (x r) (h:S.a1f x=some r):∃k,P.c3b k x=some r:=by
 obtain⟨xs,ys,u⟩:=x;unfold S.a1f at h;dsimp only at h;split at h
 case isFalse=>cases h
 rename_i hc;obtain⟨dx,dy,lx,ly⟩:=hc;cases h;refine⟨xs.length+ys.length+1,?_⟩;unfold P.c3b;dsimp only;have a1:(0:Int)<=((xs.length+ys.length:Nat):Int):=by omega
 have a2:((xs.length+ys.length:Nat):Int)*8<=281474976710656:=by omega
 rw[<-Int.natCast_add,wr (x:=((xs.length+ys.length:Nat):Int)) (by omega) (by omega)];simp only[a1,a2,decide_true,if_true,Int.le_refl,Int.toNat_natCast];have key:=a0f (k:=xs.length+ys.length+1) (b:=P.b2e (xs.length+ys.length+1)) (n:=xs.length) (st:=fun i=>((i:Int),(xs.length:Int),ys,fd B10 (xs.length+ys.length) (a0c B10 (xs.take i)*a0c B10 ys),xs,())) (F:=fun i=>some (nd B10 (a0c B10 xs*a0c B10 ys),())) (fun i g hi hg=>by
  unfold P.b2e;dsimp only at hg ⊢;have e1:(i:Int)<(xs.length:Int):=by omega
  simp only[e1,decide_true,if_true];exact g5u g _ dx dy lx ly hi _ (by omega) hg) (fun g=>by
  unfold P.b2e;dsimp only;rw[if_neg (by simp),List.take_length];unfold S.a3x;dsimp only;have hb:=b6v a0d dx dy xs.length (Nat.le_refl _);rw[List.take_length]at hb;rw[if_pos ⟨b5u (by decide) _ _,by rw[a3c];omega⟩,Option.bind_some,f4u a0d hb]) (by omega)
 rw[List.take_zero,show a0c B10 []*a0c B10 ys=0 by simp [a0c],e9k]at key;exact key
def P.c7l (k:Nat) (x:RB×RB×Unit):Option (Bool×Unit):=
 if x.1.1==x.2.1.1 then(S.a1f (x.1.2.1,x.2.1.2.2,())).bind fun y0=>(S.a1f (x.2.1.2.1,x.1.2.2,())).bind fun y1=>(S.a0o (y0.1,y1.1,())).bind fun y2=>some (y2.1==0,())else some (false,())
def S.b1q (x:(RB×(RB×Unit))):(Option (Bool×Unit)):=if rok B10 40000000 x.1=true/\rok B10 40000000 x.2.1=true then some (decide ((rv B10 x.1).1=(rv B10 x.2.1).1/\(rv B10 x.1).2.1*(rv B10 x.2.1).2.2=(rv B10 x.2.1).2.1*(rv B10 x.1).2.2),())else none
theorem S.e1t (x r) (h:S.b1q x=some r):∃k,P.c7l k x=some r:=by
 obtain⟨x,y,u⟩:=x;unfold S.b1q at h;dsimp only at h;split at h
 case isFalse=>cases h
 rename_i hc;obtain⟨n1,p1,q1,rfl,l1,l2⟩:=b2p hc.1;obtain⟨n2,p2,q2,rfl,l3,l4⟩:=b2p hc.2;rw[b9v a0d,b9v a0d]at h;cases h;refine⟨0,?_⟩;unfold P.c7l;dsimp only;have em:∀p q,(nd B10 p).length<=40000000->(nd B10 q).length<=40000000->S.a1f (nd B10 p,(nd B10 q,()))=some (nd B10 (p*q),()):=by
  intro p q hp hq;unfold S.a1f;dsimp only;rw[if_pos ⟨a3z a0d _,a3z a0d _,by omega,by omega⟩,a0i a0d,a0i a0d]
 have ec:S.a0o (nd B10 (p1*q2),(nd B10 (p2*q1),()))=some (b1d (p1*q2) (p2*q1),()):=by
  have:=a4w a0d p1 q2;unfold S.a0o;dsimp only;rw[if_pos ⟨a0m a0d _,a0m a0d _,by omega⟩,a0i a0d,a0i a0d]
 by_cases hn:n1=n2
 ·rw[if_pos (by simpa using hn),em _ _ l1 l4,Option.bind_some,em _ _ l3 l2,Option.bind_some];dsimp only;rw[ec,Option.bind_some];dsimp only;have hz:=a4v (a:=p1*q2) (b:=p2*q1)
  by_cases he:p1*q2=p2*q1
  ·rw[decide_eq_true ⟨hn,he⟩,hz.2 he];rfl
  ·rw[decide_eq_false (fun z=>he z.2),beq_eq_false_iff_ne.2 (fun z=>he (hz.1 z))]
 ·rw[if_neg (by simpa using hn),decide_eq_false (fun z=>hn z.1)]
def P.d3z (k:Nat) (x:Unit):Option (RB×Unit):=
 (S.c4z (0,())).bind fun y0=>some ((y0.1.1,y0.1.2.1,y0.1.2.2),())
def S.b7e (x:Unit):(Option (RB×Unit)):=P.d3z 0 x
theorem S.e7g (x r) (h:S.b7e x=some r):∃k,P.d3z k x=some r:=⟨0,h⟩
abbrev P.a7x (x1:Int×List Int×List Int×Int×List Int×Unit) (g2:Int×List Int×List Int×Int×List Int×Unit->Option (List Int×Unit)):Option (List Int×Unit):=
 (fun(a d:Int) (b c e:List Int)=>if decide (a<(b.length:Int))then(S.a1s (b,a,())).bind fun y3=>(S.a1s (c,a,())).bind fun y4=>if decide (((e.length+(List.length [Int.tmod (wrap .i64 ((wrap .i64 (y3.1+y4.1))+d)) 1000000000]))*8)<=140737488355328)then g2 (wrap .i64 (a+1),b,c,wrap .i64 (Int.tdiv (wrap .i64 ((wrap .i64 (y3.1+y4.1))+d)) 1000000000),e++[Int.tmod (wrap .i64 ((wrap .i64 (y3.1+y4.1))+d)) 1000000000],())else none else if decide (a<(c.length:Int))then(S.a1s (b,a,())).bind fun y5=>(S.a1s (c,a,())).bind fun y6=>if decide (((e.length+(List.length [Int.tmod (wrap .i64 ((wrap .i64 (y5.1+y6.1))+d)) 1000000000]))*8)<=140737488355328)then g2 (wrap .i64 (a+1),b,c,wrap .i64 (Int.tdiv (wrap .i64 ((wrap .i64 (y5.1+y6.1))+d)) 1000000000),e++[Int.tmod (wrap .i64 ((wrap .i64 (y5.1+y6.1))+d)) 1000000000],())else none else if decide (d>0)then(S.a1s (b,a,())).bind fun y7=>(S.a1s (c,a,())).bind fun y8=>if decide (((e.length+(List.length [Int.tmod (wrap .i64 ((wrap .i64 (y7.1+y8.1))+d)) 1000000000]))*8)<=140737488355328)then g2 (wrap .i64 (a+1),b,c,wrap .i64 (Int.tdiv (wrap .i64 ((wrap .i64 (y7.1+y8.1))+d)) 1000000000),e++[Int.tmod (wrap .i64 ((wrap .i64 (y7.1+y8.1))+d)) 1000000000],())else none else some (e,())) x1.1 x1.2.2.2.1 x1.2.1 x1.2.2.1 x1.2.2.2.2.1
def P.c3c (k:Nat) (x:List Int×List Int×Unit):Option (List Int×Unit):=
 loopP P.a7x k (0,x.1,x.2.1,0,[],())
theorem e7h (xs:List Int) (i:Nat) (h:xs.length<=100000000000):S.a1s (xs,((i:Int),()))=some (xs.getD i 0,()):=by
 unfold S.a1s P.b4e;dsimp only
 by_cases hi:(i:Int)<(xs.length:Int)
 ·have h0:(0:Int)<=(i:Int):=by omega
  rw[if_pos (decide_eq_true hi),if_pos (decide_eq_true h0),if_pos (decide_eq_true hi),Int.toNat_natCast]
 ·rw[if_neg (by simpa using hi),List.getD_eq_getElem?_getD,List.getElem?_eq_none (by omega)];rfl
theorem f6h (xs ys:List Int) (dx:dig B10 xs=true) (dy:dig B10 ys=true) (lx:xs.length<=10000000000) (ly:ys.length<=10000000000) (i:Nat) (hi:i<=100000000000) (hc:i<xs.length\/i<ys.length\/0<(a1e B10 xs ys i).2) (g:(Int×((List Int)×((List Int)×(Int×((List Int)×Unit)))))->Option ((List Int)×Unit)):
  P.a7x ((i:Int),xs,ys,((a1e B10 xs ys i).2:Int),(a1e B10 xs ys i).1,()) g=g (((i+1:Nat):Int),xs,ys,((a1e B10 xs ys (i+1)).2:Int),(a1e B10 xs ys (i+1)).1,()):=by
 obtain⟨q1,q2,q3,q4⟩:=b3o a0d dx dy i;have gx:=a1b (B:=B10) (by decide) dx i;have gy:=a1b (B:=B10) (by decide) dy i;have gx1:xs.getD i 0<1000000000:=gx.2;have gy1:ys.getD i 0<1000000000:=gy.2;have gx0:=gx.1;have gy0:=gy.1;have body:(Option.bind (S.a1s (xs,((i:Int),()))) (fun(y3:(Int×Unit))=>(Option.bind (S.a1s (ys,((i:Int),()))) (fun(y4:(Int×Unit))=>(if((decide ((((List.length (a1e B10 xs ys i).1)+(List.length ((Int.tmod (IntKind.wrap .i64 ((IntKind.wrap .i64 (y3.1+y4.1))+((a1e B10 xs ys i).2:Int))) (1000000000:Int))::([]:List Int))))*(8:Nat))<=(140737488355328:Nat)))=true)then(g ((IntKind.wrap .i64 ((i:Int)+(1:Int))),(xs,(ys,((IntKind.wrap .i64 (Int.tdiv (IntKind.wrap .i64 ((IntKind.wrap .i64 (y3.1+y4.1))+((a1e B10 xs ys i).2:Int))) (1000000000:Int))),(((a1e B10 xs ys i).1++((Int.tmod (IntKind.wrap .i64 ((IntKind.wrap .i64 (y3.1+y4.1))+((a1e B10 xs ys i).2:Int))) (1000000000:Int))::([]:List Int))),()))))))
 else none)))))=g (((i+1:Nat):Int),xs,ys,((a1e B10 xs ys (i+1)).2:Int),(a1e B10 xs ys (i+1)).1,()):=by
  rw[e7h xs i (by omega),Option.bind_some,e7h ys i (by omega),Option.bind_some];dsimp only;rw[a1e];generalize xs.getD i 0=x at*;generalize ys.getD i 0=y at*;generalize a1e B10 xs ys i=p at*;obtain⟨pl,c0⟩:=p;dsimp only at*;obtain⟨X,rfl⟩:∃Y:Nat,x=(Y:Int):=⟨x.toNat,by omega⟩
  obtain⟨Y,rfl⟩:∃Y:Nat,y=(Y:Int):=⟨y.toNat,by omega⟩
  rw[Int.toNat_natCast,Int.toNat_natCast,wr (x:=(X:Int)+(Y:Int)) (by omega) (by omega),wr (x:=(X:Int)+(Y:Int)+(c0:Int)) (by omega) (by omega),Int.tmod_eq_emod_of_nonneg (by omega),Int.tdiv_eq_ediv_of_nonneg (by omega)];have e8:((X:Int)+(Y:Int)+(c0:Int))%1000000000=(((c0+X+Y)%B10:Nat):Int):=by
   show _=(((c0+X+Y)%1000000000:Nat):Int)
   omega
  have e9:((X:Int)+(Y:Int)+(c0:Int))/1000000000=(((c0+X+Y)/B10:Nat):Int):=by
   show _=(((c0+X+Y)/1000000000:Nat):Int)
   omega
  have b2:(c0+X+Y)/B10<=1000000000:=by
   show(c0+X+Y)/1000000000<=1000000000;omega
  have hcap:(pl.length+ [(((c0+X+Y)%B10:Nat):Int)].length)*8<=140737488355328:=by
   rw[q2,List.length_singleton];omega
  rw[e8,e9,if_pos (decide_eq_true hcap),wr (x:=(((c0+X+Y)/B10:Nat):Int)) (by omega) (by omega),wr (x:=(i:Int)+1) (by omega) (by omega)];rfl
 unfold P.a7x;dsimp only
 by_cases h1:i<xs.length
 ·have h1':(i:Int)<(xs.length:Int):=by omega
  rw[if_pos (decide_eq_true h1')];exact body
 ·have h1':¬(i:Int)<(xs.length:Int):=by omega
  rw[if_neg (by simpa using h1')]
  by_cases h2:i<ys.length
  ·have h2':(i:Int)<(ys.length:Int):=by omega
   rw[if_pos (decide_eq_true h2')];exact body
  ·have h2':¬(i:Int)<(ys.length:Int):=by omega
   have h3:((a1e B10 xs ys i).2:Int)>0:=by
    rcases hc with h|h|h
    ·exact absurd h h1
    ·exact absurd h h2
    ·omega
   rw[if_neg (by simpa using h2'),if_pos (decide_eq_true h3)];exact body
def S.b1r (x:((List Int)×((List Int)×Unit))):(Option ((List Int)×Unit)):=if a2r B10 x.1=true/\a2r B10 x.2.1=true/\x.1.length<=10000000000/\x.2.1.length<=10000000000 then some (nd B10 (a0c B10 x.1+a0c B10 x.2.1),())else none
theorem S.d6r (x r) (h:S.b1r x=some r):∃k,P.c3c k x=some r:=by
 obtain⟨xs,ys,u⟩:=x;unfold S.b1r at h;dsimp only at h;split at h
 case isFalse=>cases h
 rename_i hc;obtain⟨cx,cy,lx,ly⟩:=hc;cases h;have dx:=a1q cx;have dy:=a1q cy;obtain⟨N,hN,hNx,hNy,hNle⟩:∃N,(N=xs.length\/N=ys.length)/\xs.length<=N/\ys.length<=N/\N<=10000000000:=by
  by_cases h:xs.length<=ys.length
  ·exact⟨ys.length, .inr rfl,h,Nat.le_refl _,ly⟩
  ·exact⟨xs.length, .inl rfl,Nat.le_refl _,by omega,lx⟩
 obtain⟨q1,q2,q3,q4⟩:=b3o a0d dx dy N;rw[List.take_of_length_le hNx,List.take_of_length_le hNy]at q3;obtain⟨n,hn,hfull⟩:∃n,(n=N/\(a1e B10 xs ys N).2=0\/n=N+1/\0<(a1e B10 xs ys N).2)/\(n=0\/B10^(n - 1)<=a0c B10 xs+a0c B10 ys):=by
  by_cases h:(a1e B10 xs ys N).2=0
  ·refine⟨N, .inl ⟨rfl,h⟩,?_⟩;have one:∀zs:List Int,a2r B10 zs=true->zs=[]\/B10^(zs.length - 1)<=a0c B10 zs:=by
    intro zs cz
    by_cases hz:zs=[]
    ·exact .inl hz
    ·have h0:a0c B10 zs≠0:=fun e=>hz ((a9t a0d cz).2 e)
     have:=e4h a0d h0;rw[a1d cz]at this;exact .inr this
   rcases hN with e|e
   ·rcases one xs cx with h2|h2
    ·left;rw[e,h2];rfl
    ·right;rw[e];omega
   ·rcases one ys cy with h2|h2
    ·left;rw[e,h2];rfl
    ·right;rw[e];omega
  ·refine⟨N+1, .inr ⟨rfl,by omega⟩, .inr ?_⟩;rw[Nat.add_sub_cancel];have:B10^N*1<=B10^N*(a1e B10 xs ys N).2:=Nat.mul_le_mul_left _ (by omega);omega
 obtain⟨r1,r2,r3,r4⟩:=b3o a0d dx dy n;rw[List.take_of_length_le (by omega),List.take_of_length_le (by omega)]at r3;have hlast:(a1e B10 xs ys n).2=0:=by
  rcases hn with ⟨rfl,h⟩|⟨rfl,h⟩
  ·exact h
  ·rw[a1e];rw[List.getD_eq_getElem?_getD,List.getElem?_eq_none (by omega),List.getD_eq_getElem?_getD,List.getElem?_eq_none (by omega)];show((a1e B10 xs ys N).2+0+0)/1000000000=0;omega
 rw[hlast,Nat.mul_zero,Nat.add_zero]at r3;refine⟨n+1,?_⟩;unfold P.c3c;dsimp only;have key:=a0f (k:=n+1) (b:=P.a7x) (n:=n) (st:=fun i=>((i:Int),xs,ys,((a1e B10 xs ys i).2:Int),(a1e B10 xs ys i).1,())) (F:=fun i=>some (nd B10 (a0c B10 xs+a0c B10 ys),())) (fun i g hi hg=>by
  rw[f6h xs ys dx dy lx ly i (by omega) (by
   rcases hn with ⟨rfl,h⟩|⟨rfl,h⟩
   ·omega
   ·by_cases he:i=N
    ·subst he;exact .inr (.inr h)
    ·omega)]
  exact hg) (fun g=>by
  unfold P.a7x;dsimp only;have h1:¬(n:Int)<(xs.length:Int):=by omega
  have h2:¬(n:Int)<(ys.length:Int):=by omega
  rw[if_neg (by simpa using h1),if_neg (by simpa using h2),hlast,if_neg (by simp),<-r3];rcases Nat.eq_zero_or_pos n with e|e
  ·subst e;show some ([],())=some (nd B10 0,());rw[a1t a0d]
  ·have hv:B10^(n - 1)<=a0c B10 (a1e B10 xs ys n).1:=by
    rcases hfull with h|h
    ·omega
    ·omega
   have:=f8q a0d r1 (fun q=>by rw[q]at r2;simp at r2;omega) (by rw[r2];exact hv);rw[this]) (by omega)
 exact key
abbrev P.b0e (x1:Int×Int×List Int×List Int×Int×List Int×Unit) (g2:Int×Int×List Int×List Int×Int×List Int×Unit->Option (List Int×Unit)):Option (List Int×Unit):=
 (fun(a b e:Int) (c d f:List Int)=>if decide (a<b)then if decide (0<=a)then if decide (a<(c.length:Int))then(S.a1s (d,a,())).bind fun y3=>if decide ((wrap .i64 ((wrap .i64 ((c.getD a.toNat 0) - y3.1)) - e))<0)then if decide (((f.length+(List.length [wrap .i64 ((wrap .i64 ((wrap .i64 ((c.getD a.toNat 0) - y3.1)) - e))+1000000000)]))*8)<=140737488355328)then g2 (wrap .i64 (a+1),b,c,d,1,f++[wrap .i64 ((wrap .i64 ((wrap .i64 ((c.getD a.toNat 0) - y3.1)) - e))+1000000000)],())else none else if decide (((f.length+(List.length [wrap .i64 ((wrap .i64 ((c.getD a.toNat 0) - y3.1)) - e)]))*8)<=140737488355328)then g2 (wrap .i64 (a+1),b,c,d,0,f++[wrap .i64 ((wrap .i64 ((c.getD a.toNat 0) - y3.1)) - e)],())else none else none else none else(S.a3x (f,())).bind fun y4=>some (y4.1,())) x1.1 x1.2.1 x1.2.2.2.2.1 x1.2.2.1 x1.2.2.2.1 x1.2.2.2.2.2.1
def P.c0j (k:Nat) (x:List Int×List Int×Unit):Option (List Int×Unit):=
 loopP P.b0e k (0,(x.1.length:Int),x.1,x.2.1,0,[],())
theorem g5v (xs:List Int) (i:Nat) (h:xs.length<=100000000000):S.a1s (xs,((i:Int),()))=some (xs.getD i 0,()):=by
 unfold S.a1s P.b4e;dsimp only
 by_cases hi:(i:Int)<(xs.length:Int)
 ·have h0:(0:Int)<=(i:Int):=by omega
  rw[if_pos (decide_eq_true hi),if_pos (decide_eq_true h0),if_pos (decide_eq_true hi),Int.toNat_natCast]
 ·rw[if_neg (by simpa using hi),List.getD_eq_getElem?_getD,List.getElem?_eq_none (by omega)];rfl
def S.a6s (x:((List Int)×((List Int)×Unit))):(Option ((List Int)×Unit)):=if dig B10 x.1=true/\dig B10 x.2.1=true/\x.2.1.length<=x.1.length/\a0c B10 x.2.1<=a0c B10 x.1/\x.1.length<=10000000000 then some (nd B10 (a0c B10 x.1 - a0c B10 x.2.1),())else none
theorem S.d4a (x r) (h:S.a6s x=some r):∃k,P.c0j k x=some r:=by
 obtain⟨xs,ys,u⟩:=x;unfold S.a6s at h;dsimp only at h;split at h
 case isFalse=>cases h
 rename_i hc;obtain⟨dx,dy,hl,hv,lx⟩:=hc;cases h;refine⟨xs.length+1,?_⟩;unfold P.c0j;dsimp only;have key:=a0f (k:=xs.length+1) (b:=P.b0e) (n:=xs.length) (st:=fun i=>((i:Int),(xs.length:Int),xs,ys,((a2i B10 1 xs ys i).2.2:Int),(a2i B10 1 xs ys i).1,())) (F:=fun i=>some (nd B10 (a0c B10 xs - a0c B10 ys),())) (fun i g hi hg=>by
  unfold P.b0e;dsimp only at hg ⊢;refine Eq.trans ?_ hg;clear hg;obtain⟨q1,q2,q3,q4,q5⟩:=b9q (t:=1) a0d dx dy i;have gx:=a1b (B:=B10) (by decide) dx i;have gy:=a1b (B:=B10) (by decide) dy i;have gx1:xs.getD i 0<1000000000:=gx.2;have gy1:ys.getD i 0<1000000000:=gy.2;have gx0:=gx.1;have gy0:=gy.1;have e1:(i:Int)<(xs.length:Int):=by omega
  have e2:(0:Int)<=(i:Int):=by omega
  simp only[e1,e2,decide_true,if_true,Int.toNat_natCast];rw[g5v ys i (by omega),Option.bind_some];dsimp only;rw[(d7m a0d (xs:=xs) dy i).2];dsimp only;generalize (a2i B10 1 xs ys i).1=pl at*;generalize (a2i B10 1 xs ys i).2.2=l0 at*;obtain⟨x,hx⟩:∃x,xs.getD i 0=x:=⟨_,rfl⟩
  obtain⟨y,hy⟩:∃y,ys.getD i 0=y:=⟨_,rfl⟩
  simp only[hx,hy]at gx1 gx0 gy1 gy0 ⊢;have hB:((B10:Nat):Int)=1000000000:=rfl;have hcap:∀v:Int,(pl.length+ [v].length)*8<=140737488355328:=by
   intro v;rw[q2,List.length_singleton];omega
  rw[wr (x:=(i:Int)+1) (by omega) (by omega),wr (x:=x - y) (by omega) (by omega),wr (x:=x - y - (l0:Int)) (by omega) (by omega),wr (x:=x - y - (l0:Int)+1000000000) (by omega) (by omega),hB]
  by_cases hn:x - y - (l0:Int)<0
  ·rw[if_pos (decide_eq_true hn),if_pos (decide_eq_true (hcap _)),if_pos hn,show(x - y - (l0:Int))%1000000000=x - y - (l0:Int)+1000000000 by omega];rfl
  ·have e11:(x - y - (l0:Int))%1000000000=x - y - (l0:Int):=by omega
   rw[if_neg (by simpa using hn),if_pos (decide_eq_true (hcap _)),if_neg hn,e11];rfl) (fun g=>by
  unfold P.b0e;dsimp only;rw[if_neg (by simp),e4o a0d dx dy hl hv];unfold S.a3x;dsimp only;have hb:=a1n dx;rw[if_pos ⟨b5u (by decide) _ _,by rw[a3c];omega⟩,Option.bind_some,f4u a0d (by omega)]) (by omega)
 exact key
def P.d4b (k:Nat) (x:Bool×List Int×List Int×Unit):Option (RB×Unit):=
 (S.a3g (x.2.1,x.2.2.1,())).bind fun y0=>(S.a0o (y0.1,[(1:Int)],())).bind fun y1=>if y1.1 != (0:Int)then(S.a4p (x.2.1,y0.1,())).bind fun y2=>(S.a4p (x.2.2.1,y0.1,())).bind fun y3=>if x.1 then some ((decide ((y2.1.1.length:Int)>(0:Int)),y2.1.1,y3.1.1),())else some ((false,y2.1.1,y3.1.1),())else if x.1 then some ((decide ((x.2.1.length:Int)>(0:Int)),x.2.1,x.2.2.1),())else some ((false,x.2.1,x.2.2.1),())
def S.a5t (x:(Bool×((List Int)×((List Int)×Unit)))):(Option (RB×Unit)):=if a2r B10 x.2.1=true/\a2r B10 x.2.2.1=true/\x.2.2.1≠ []/\x.2.1.length<=10000000000/\x.2.2.1.length<=10000000000 then some (rp B10 (c1f x.1 (a0c B10 x.2.1) (a0c B10 x.2.2.1)),())else none
theorem S.e7i (x r) (h:S.a5t x=some r):∃k,P.d4b k x=some r:=by
 obtain⟨neg,as,bs',u⟩:=x;unfold S.a5t at h;dsimp only at h;split at h
 case isFalse=>cases h
 rename_i hc;obtain⟨ca,cb,hne,la,lb⟩:=hc;cases h;refine⟨0,?_⟩;unfold P.d4b;dsimp only;have hb0:a0c B10 bs'≠0:=fun e=>hne ((a9t a0d cb).2 e)
 have hg:=f8z a0d ca cb hb0;have hgp:0<Nat.gcd (a0c B10 as) (a0c B10 bs'):=Nat.gcd_pos_of_pos_right _ (by omega);have e1:S.a3g (as,(bs',()))=some (nd B10 (Nat.gcd (a0c B10 as) (a0c B10 bs')),()):=by
  unfold S.a3g;exact if_pos ⟨ca,cb,la,lb⟩
 rw[e1,Option.bind_some];dsimp only;unfold c1f rp;dsimp only;have hgne:nd B10 (Nat.gcd (a0c B10 as) (a0c B10 bs'))≠ []:=by
  rw[b4y a0d (by omega)];simp
 have hgd:a0c B10 (nd B10 (Nat.gcd (a0c B10 as) (a0c B10 bs')))=Nat.gcd (a0c B10 as) (a0c B10 bs'):=a0i a0d _;have hgc:a2r B10 (nd B10 (Nat.gcd (a0c B10 as) (a0c B10 bs')))=true:=a0m a0d _;have e2:∀xs,a2r B10 xs=true->xs.length<=10000000000->S.a4p (xs,(nd B10 (Nat.gcd (a0c B10 as) (a0c B10 bs')),()))=some ((nd B10 (a0c B10 xs/Nat.gcd (a0c B10 as) (a0c B10 bs')),nd B10 (a0c B10 xs%Nat.gcd (a0c B10 as) (a0c B10 bs'))),()):=by
  intro xs cx lx;unfold S.a4p;dsimp only;rw[if_pos ⟨cx,hgc,hgne,lx,by omega⟩,hgd]
 have e3:S.a0o (nd B10 (Nat.gcd (a0c B10 as) (a0c B10 bs')),([1],()))=some (b1d (Nat.gcd (a0c B10 as) (a0c B10 bs')) 1,()):=by
  unfold S.a0o;dsimp only;rw[if_pos ⟨hgc,b6w a0d,by omega⟩,hgd,b8a]
 rw[e3,Option.bind_some,e2 as ca la,Option.bind_some,e2 bs' cb lb,Option.bind_some];dsimp only;have hpos:∀xs:List Int,a2r B10 xs=true->(decide (((xs.length:Nat):Int)>0))=decide (a0c B10 xs≠0):=by
  intro xs cx;have:=a9t a0d cx;rw[decide_eq_decide];constructor
  ·intro h e;rw[this.2 e]at h;simp at h
  ·intro h;have:0<xs.length:=List.length_pos_iff.2 (fun e=>h (this.1 e));omega
 have hp2:decide (a0c B10 as/Nat.gcd (a0c B10 as) (a0c B10 bs')≠0)=decide (a0c B10 as≠0):=by
  rw[decide_eq_decide];have hdv:Nat.gcd (a0c B10 as) (a0c B10 bs') ∣ a0c B10 as:=Nat.gcd_dvd_left _ _;constructor
  ·intro h e;rw[e,Nat.zero_div]at h;exact h rfl
  ·intro h e;have:=Nat.div_pos (Nat.le_of_dvd (by omega) hdv) hgp;omega
 rw[hpos _ (a0m a0d _),hpos as ca,a0i a0d,hp2]
 by_cases h1:Nat.gcd (a0c B10 as) (a0c B10 bs')=1
 ·rw[if_neg (by simpa using a4v.2 h1),h1,Nat.div_one,Nat.div_one,a1d ca,a1d cb];cases neg<;>simp
 ·rw[if_pos (by simpa using fun q=>h1 (a4v.1 q))];cases neg<;>simp
def P.e1u (k:Nat) (x:RB×RB×Unit):Option (RB×Unit):=
 (S.a1f (x.1.2.1,x.2.1.2.2,())).bind fun y0=>(S.a1f (x.2.1.2.1,x.1.2.2,())).bind fun y1=>(S.a1f (x.1.2.2,x.2.1.2.2,())).bind fun y2=>if x.1.1==x.2.1.1 then(S.b1r (y0.1,y1.1,())).bind fun y3=>(S.a5t (x.1.1,y3.1,y2.1,())).bind fun y4=>some ((y4.1.1,y4.1.2.1,y4.1.2.2),())else(S.a0o (y0.1,y1.1,())).bind fun y5=>if decide (y5.1>=0)then(S.a6s (y0.1,y1.1,())).bind fun y6=>(S.a5t (x.1.1,y6.1,y2.1,())).bind fun y7=>some ((y7.1.1,y7.1.2.1,y7.1.2.2),())else(S.a6s (y1.1,y0.1,())).bind fun y8=>(S.a5t (x.2.1.1,y8.1,y2.1,())).bind fun y9=>some ((y9.1.1,y9.1.2.1,y9.1.2.2),())
theorem g0u (p q:Nat) (hp:(nd B10 p).length<=100000000) (hq:(nd B10 q).length<=100000000):S.a1f (nd B10 p,(nd B10 q,()))=some (nd B10 (p*q),()):=by
 unfold S.a1f;dsimp only;rw[if_pos ⟨a3z a0d _,a3z a0d _,by omega,by omega⟩,a0i a0d,a0i a0d]
theorem h3u (p q:Nat) (hp:(nd B10 p).length<=100000000) (hq:(nd B10 q).length<=100000000):S.b1r (nd B10 p,(nd B10 q,()))=some (nd B10 (p+q),()):=by
 unfold S.b1r;dsimp only;rw[if_pos ⟨a0m a0d _,a0m a0d _,by omega,by omega⟩,a0i a0d,a0i a0d]
theorem g8d (p q:Nat) (hp:(nd B10 p).length<=100000000) (h:q<=p):S.a6s (nd B10 p,(nd B10 q,()))=some (nd B10 (p - q),()):=by
 unfold S.a6s;dsimp only;rw[a0i a0d,a0i a0d,if_pos ⟨a3z a0d _,a3z a0d _,a6n a0d h,h,by omega⟩]
theorem h3v (p q:Nat) (hp:(nd B10 p).length<=100000000):S.a0o (nd B10 p,(nd B10 q,()))=some (b1d p q,()):=by
 unfold S.a0o;dsimp only;rw[if_pos ⟨a0m a0d _,a0m a0d _,by omega⟩,a0i a0d,a0i a0d]
theorem g0v (n:Bool) (p q:Nat) (hp:(nd B10 p).length<=100000000) (hq:(nd B10 q).length<=100000000) (h0:q≠0):S.a5t (n,(nd B10 p,(nd B10 q,())))=some (rp B10 (c1f n p q),()):=by
 unfold S.a5t;dsimp only;rw[if_pos ⟨a0m a0d _,a0m a0d _,f5a a0d h0,by omega,by omega⟩,a0i a0d,a0i a0d]
def S.b0f (x:(RB×(RB×Unit))):(Option (RB×Unit)):=if c4b B10 40000000 x.1=true/\c4b B10 40000000 x.2.1=true then some (rp B10 (b6j (rv B10 x.1) (rv B10 x.2.1)),())else none
theorem S.f1m (x r) (h:S.b0f x=some r):∃k,P.e1u k x=some r:=by
 obtain⟨x,y,u⟩:=x;unfold S.b0f at h;dsimp only at h;split at h
 case isFalse=>cases h
 rename_i hc;obtain⟨hx,hy⟩:=hc;cases h;rw[a8f]at hx hy;obtain⟨hx,lx⟩:=hx;obtain⟨hy,ly⟩:=hy;obtain⟨n1,p1,q1,rfl,x1,x2⟩:=b2p hx;obtain⟨n2,p2,q2,rfl,y1,y2⟩:=b2p hy;rw[b9v a0d]at lx ly ⊢;rw[b9v a0d];have hq1:q1≠0:=by have:0<q1:=lx.1;omega
 have hq2:q2≠0:=by have:0<q2:=ly.1;omega
 have m1:=a4w a0d p1 q2;have m2:=a4w a0d p2 q1;have m3:=a4w a0d q1 q2;have hq0:q1*q2≠0:=Nat.mul_ne_zero hq1 hq2;refine⟨0,?_⟩;unfold P.e1u;dsimp only;rw[g0u p1 q2 (by omega) (by omega),Option.bind_some,g0u p2 q1 (by omega) (by omega),Option.bind_some,g0u q1 q2 (by omega) (by omega),Option.bind_some];dsimp only;unfold b6j;dsimp only;have a1:=c6l a0d (p1*q2) (p2*q1);have a2:=b4h a0d (p1*q2) (p2*q1);have a3:=b4h a0d (p2*q1) (p1*q2)
 by_cases hn:n1=n2
 ·rw[if_pos (by simpa using hn),if_pos hn,h3u _ _ (by omega) (by omega),Option.bind_some,g0v n1 _ _ (by omega) (by omega) hq0,Option.bind_some]
 ·rw[if_neg (by simpa using hn),if_neg hn,h3v _ _ (by omega),Option.bind_some];dsimp only;have hlt:=c2j (a:=p1*q2) (b:=p2*q1)
  by_cases hle:p2*q1<=p1*q2
  ·have hge:b1d (p1*q2) (p2*q1)>=0:=by
    rcases Int.lt_or_le (b1d (p1*q2) (p2*q1)) 0 with g|g
    ·have:=hlt.1 g;omega
    ·exact g
   rw[if_pos (decide_eq_true hge),if_pos hle,g8d _ _ (by omega) hle,Option.bind_some,g0v n1 _ _ (by omega) (by omega) hq0,Option.bind_some]
  ·have hge:¬b1d (p1*q2) (p2*q1)>=0:=by
    have:=hlt.2 (Nat.lt_of_not_le hle);omega
   rw[if_neg (by simpa using hge),if_neg hle,g8d _ _ (by omega) (Nat.le_of_lt (Nat.lt_of_not_le hle)),Option.bind_some,g0v n2 _ _ (by omega) (by omega) hq0,Option.bind_some]
abbrev P.b3y (x2:Int×Int×RB×List RB×RB×Unit) (g3:Int×Int×RB×List RB×RB×Unit->Option (RB×Unit)):Option (RB×Unit):=
 if decide (x2.1<x2.2.1)then if decide (0<=x2.1)then if decide (x2.1<(x2.2.2.2.1.length:Int))then(S.b0f ((x2.2.2.1.1,x2.2.2.1.2.1,x2.2.2.1.2.2),((x2.2.2.2.1.getD x2.1.toNat (false,[],[])).1,(x2.2.2.2.1.getD x2.1.toNat (false,[],[])).2.1,(x2.2.2.2.1.getD x2.1.toNat (false,[],[])).2.2),())).bind fun y4=>g3 (wrap .i64 (x2.1+1),x2.2.1,(y4.1.1,y4.1.2.1,y4.1.2.2),x2.2.2.2.1,(x2.2.2.2.2.1.1,x2.2.2.2.2.1.2.1,x2.2.2.2.2.1.2.2),())else none else none else some ((x2.2.2.1.1,x2.2.2.1.2.1,x2.2.2.1.2.2),())
def P.c7m (k:Nat) (x:List RB×Unit):Option (RB×Unit):=
 (S.b7e ()).bind fun y0=>loopP P.b3y k (0,(x.1.length:Int),(y0.1.1,y0.1.2.1,y0.1.2.2),x.1,(false,[],[]),())
open Classical in
def S.b4k (x:((List RB)×Unit)):(Option (RB×Unit)):=if g4r B10 x.1 then some (rp B10 (a8g (x.1.map (rv B10))),())else none
theorem d6s (a b:Q3) (ha:c4b B10 40000000 (rp B10 a)=true) (hb:c4b B10 40000000 (rp B10 b)=true):S.b0f (rp B10 a,(rp B10 b,()))=some (rp B10 (b6j a b),()):=by
 unfold S.b0f;dsimp only;rw[if_pos ⟨ha,hb⟩,a4t a0d,a4t a0d]
theorem S.e1v (x r) (h:S.b4k x=some r):∃k,P.c7m k x=some r:=by
 obtain⟨xs,u⟩:=x;unfold S.b4k at h;dsimp only at h;split at h
 case isFalse=>cases h
 rename_i hc;obtain⟨qs,rfl,hlen,hq,hg⟩:=hc;cases h;refine⟨qs.length+1,?_⟩;unfold P.c7m;have hz:S.b7e ()=some (rp B10 a3f,()):=by rfl
 dsimp only;rw[hz,Option.bind_some,b3i a0d,List.length_map];have key:=a0f (k:=qs.length+1) (b:=P.b3y) (n:=qs.length) (st:=fun i=>((i:Int),(qs.length:Int),rp B10 (a8g (qs.take i)),qs.map (rp B10),(false,(([]:List Int),([]:List Int))),())) (F:=fun i=>some (rp B10 (a8g qs),())) (fun i g hi hg'=>by
  unfold P.b3y;dsimp only at hg' ⊢;have e1:(i:Int)<(qs.length:Int):=by omega
  have e2:(0:Int)<=(i:Int):=by omega
  have e3:(i:Int)<((qs.map (rp B10)).length:Int):=by rw[List.length_map];omega
  rw[if_pos (decide_eq_true e1),if_pos (decide_eq_true e2),if_pos (decide_eq_true e3),a0n (qs.map (rp B10)) i _ (by rw[List.length_map];exact hi),List.getElem_map];have ea:=d6s (a8g (qs.take i)) qs[i] (a4m (by decide) (hg i).1 (hg i).2 (by decide)) (a4m (by decide) (hq _ (List.getElem_mem hi)).1 (hq _ (List.getElem_mem hi)).2 (by decide));rw[d1p hi]at ea;show Option.bind (S.b0f (rp B10 (a8g (qs.take i)),(rp B10 qs[i],()))) _=_;rw[ea,Option.bind_some,wr (by omega) (by omega)];exact hg') (fun g=>by
  unfold P.b3y;dsimp only;rw[if_neg (by simp),List.take_length]) (by omega)
 exact key
abbrev P.a8j (x1:Int×Int×List RB×Unit) (g2:Int×Int×List RB×Unit->Option (Bool×Unit)):Option (Bool×Unit):=
 if decide (x1.1<x1.2.1)then if decide (0<=x1.1)then if decide (x1.1<(x1.2.2.1.length:Int))then if(x1.2.2.1.getD x1.1.toNat (false,[],[])).1 then some (false,())else g2 (wrap .i64 (x1.1+1),x1.2.1,x1.2.2.1,())else none else none else some (true,())
def P.b8s (k:Nat) (x:List RB×Unit):Option (Bool×Unit):=
 loopP P.a8j k (0,(x.1.length:Int),x.1,())
def S.b0g (x:((List RB)×Unit)):(Option (Bool×Unit)):=if x.1.length<=1000000000 then some (!(x.1.any fun r=>r.1),())else none
theorem S.c9n (x r) (h:S.b0g x=some r):∃k,P.b8s k x=some r:=by
 obtain⟨xs,u⟩:=x;unfold S.b0g at h;dsimp only at h;split at h
 case isFalse=>cases h
 rename_i hc;cases h;refine⟨xs.length+1,?_⟩;unfold P.b8s;have key:=a0f (k:=xs.length+1) (b:=P.a8j) (n:=xs.length) (st:=fun i=>((i:Int),(xs.length:Int),xs,())) (F:=fun i=>some (!((xs.drop i).any fun r=>r.1),())) (fun i g hi hg=>by
  unfold P.a8j;dsimp only at hg ⊢;have e1:(i:Int)<(xs.length:Int):=by omega
  have e2:(0:Int)<=(i:Int):=by omega
  rw[if_pos (decide_eq_true e1),if_pos (decide_eq_true e2),if_pos (decide_eq_true e1),a0n xs i _ hi,List.drop_eq_getElem_cons hi,List.any_cons];cases hf:xs[i].1
  ·rw[if_neg (by decide),wr (by omega) (by omega),Bool.false_or];exact hg
  ·rw[if_pos rfl];rfl) (fun g=>by
  unfold P.a8j;dsimp only;rw[if_neg (by simp),List.drop_length];rfl) (by omega)
 exact key
def P.c0k (k:Nat) (x:List RB×Unit):Option (Bool×Unit):=
 (S.b0g (x.1,())).bind fun y0=>if y0.1 then(S.b4k (x.1,())).bind fun y1=>(S.b3x ()).bind fun y2=>(S.b1q ((y1.1.1,y1.1.2.1,y1.1.2.2),(y2.1.1,y2.1.2.1,y2.1.2.2),())).bind fun y3=>some (y3.1,())else some (false,())
open Classical in
def S.a9d (x:((List RB)×Unit)):(Option (Bool×Unit)):=if e9s B10 x.1 then some (isW (x.1.map (rv B10)),())else none
theorem S.d4c (x r) (h:S.a9d x=some r):∃k,P.c0k k x=some r:=by
 obtain⟨xs,u⟩:=x;unfold S.a9d at h;dsimp only at h;split at h
 case isFalse=>cases h
 rename_i hc;obtain⟨qs,n,rfl,hg⟩:=hc;cases h;refine⟨0,?_⟩;rw[b3i a0d];unfold P.c0k S.b0g;dsimp only;have hlen:=c9x hg;rw[if_pos (by rw[List.length_map];omega),Option.bind_some,g7v];dsimp only;unfold isW;have es:S.b4k (qs.map (rp B10),())=some (rp B10 (a8g qs),()):=by
  unfold S.b4k;dsimp only;rw[if_pos (f9u ⟨qs,n,rfl,hg⟩),b3i a0d]
 have h1:S.b3x ()=some (rp B10 c4c,()):=by rfl
 have eo:S.b1q (rp B10 (a8g qs),(rp B10 c4c,()))=some (c4e (a8g qs),()):=by
  unfold S.b1q;dsimp only;rw[if_pos ⟨f3a (by decide) hg,f9g (B:=B10) (by decide) (d7l (by decide))⟩,a4t a0d,a4t a0d];unfold c4e c4c;dsimp only;rw[Nat.mul_one,Nat.one_mul]
 cases hm:(qs.any fun r=>r.1)
 ·rw[if_pos (show(!false)=true by rfl),es,Option.bind_some,h1,Option.bind_some];show Option.bind (S.b1q (rp B10 (a8g qs),(rp B10 c4c,()))) _=_;rw[eo,Option.bind_some];rfl
 ·rfl
abbrev s_l03Parse.A:=Int×Int×List (List ByteArray)×Int×List (List RB)×List (List RB)×Unit
abbrev s_l03Parse.B:=Option ((List (List RB)×Bool)×Unit)
abbrev P.b3z (x1:s_l03Parse.A) (g2:s_l03Parse.A->s_l03Parse.B):s_l03Parse.B:=
 if decide (x1.1<x1.2.1)then if decide (0<=x1.1)then if decide (x1.1<(x1.2.2.1.length:Int))then if(List.length (x1.2.2.1.getD x1.1.toNat []):Int) != x1.2.2.2.1 then some (([],false),())else if decide (0<=x1.1)then if decide (x1.1<(x1.2.2.1.length:Int))then(S.b7d (x1.2.2.1.getD x1.1.toNat [],())).bind fun y3=>if !y3.1.2 then some (([],false),())else(S.a9d (y3.1.1,())).bind fun y4=>if !y4.1 then some (([],false),())else if decide (((x1.2.2.2.2.2.1.length+(List.length [y3.1.1]))*24)<=140737488355328)then g2 (wrap .i64 (x1.1+1),x1.2.1,x1.2.2.1,x1.2.2.2.1,x1.2.2.2.2.1,x1.2.2.2.2.2.1++[y3.1.1],())else none else none else none else none else none else some ((x1.2.2.2.2.2.1,true),())
def P.c7n (k:Nat) (x:List (List ByteArray)×Unit):s_l03Parse.B:=
 if decide ((x.1.length:Int)<1)then some (([],false),())else if decide ((x.1.length:Int)>12)then some (([],false),())else loopP P.b3z k (0,(x.1.length:Int),x.1,(x.1.length:Int),[],[],())
def S.b4l (x:((List (List ByteArray))×Unit)):(Option (((List (List RB))×Bool)×Unit)):=if x.1.all okT=true then some (((chQ x.1).1.map (fun r=>r.map (rp B10)),(chQ x.1).2),())else none
theorem S.e1w (x r) (h:S.b4l x=some r):∃k,P.c7n k x=some r:=by
 obtain⟨rows,u⟩:=x;unfold S.b4l at h;dsimp only at h;split at h
 case isFalse=>cases h
 rename_i hc;cases h;refine⟨rows.length+1,?_⟩;unfold P.c7n chQ;dsimp only
 by_cases h1:1<=rows.length
 case neg=>
  rw[if_pos (decide_eq_true (show(rows.length:Int)<1 by omega)),decide_eq_false h1];rfl
 rw[if_neg (by simpa using(show ¬(rows.length:Int)<1 by omega)),decide_eq_true h1]
 by_cases h2:rows.length<=12
 case neg=>
  rw[if_pos (decide_eq_true (show(rows.length:Int)>12 by omega)),decide_eq_false h2];rfl
 rw[if_neg (by simpa using(show ¬(rows.length:Int)>12 by omega)),decide_eq_true h2];simp only[Bool.true_and];have key:=a0f (k:=rows.length+1) (b:=P.b3z) (n:=rows.length) (st:=fun i=>((i:Int),(rows.length:Int),rows,(rows.length:Int),([]:List (List (Bool×(List Int×List Int)))),(rows.take i).map (fun r=>(a2x r).1.map (rp B10)),())) (F:=fun i=>some (if((rows.drop i).all fun r=>decide (r.length=rows.length)&&(c1p r).2)=true then(rows.map (fun r=>(a2x r).1.map (rp B10)),true)else([],false),())) (fun i g hi hg'=>by
  have e1:(i:Int)<(rows.length:Int):=by omega
  have e2:(0:Int)<=(i:Int):=by omega
  have hr:okT rows[i]=true:=List.all_eq_true.1 hc _ (List.getElem_mem hi);have e4:(((rows.take i).map (fun r=>(a2x r).1.map (rp B10))).length+1)*24<=140737488355328:=by
   rw[List.length_map,List.length_take];omega
  unfold P.b3z;dsimp only at hg' ⊢;simp only[e1,e2,decide_true,if_true];rw[a0n rows i _ hi,List.drop_eq_getElem_cons hi,List.all_cons]
  by_cases hl:rows[i].length=rows.length
  case neg=>
   rw[if_pos (by simp;omega),decide_eq_false hl,Bool.false_and,Bool.false_and,if_neg (by decide)]
  rw[if_neg (by simp;omega),decide_eq_true hl,Bool.true_and,f9j];have ew:S.b7d (rows[i],())=some (((a2x rows[i]).1.map (rp B10),(a2x rows[i]).2),()):=by
   unfold S.b7d;exact if_pos hr
  rw[ew,Option.bind_some];dsimp only;cases w1:(a2x rows[i]).2
  ·rw[if_pos (by decide),Bool.false_and,Bool.false_and,if_neg (by decide)]
  have eW:S.a9d ((a2x rows[i]).1.map (rp B10),())=some (isW (a2x rows[i]).1,()):=by
   unfold S.a9d;dsimp only;rw[if_pos (d1q w1),b3i a0d]
  rw[if_neg (by decide),eW,Option.bind_some,Bool.true_and];dsimp only;cases hw:isW (a2x rows[i]).1
  ·rw[if_pos (by decide),Bool.false_and,if_neg (by decide)]
  rw[if_neg (by decide),Bool.true_and];simp only[List.length_cons,List.length_nil,Nat.zero_add];rw[if_pos (decide_eq_true e4),wr (by omega) (by omega),<-hg',List.take_add_one,List.getElem?_eq_getElem hi,Option.toList_some,List.map_append];rfl) (fun g=>by
  unfold P.b3z;dsimp only;rw[if_neg (by simp),List.take_length,List.drop_length];rfl) (by omega)
 rw[List.drop_zero]at key;refine Eq.trans key ?_
 by_cases ha:(rows.all fun r=>decide (r.length=rows.length)&&(c1p r).2)=true
 ·rw[if_pos ha,if_pos ha,List.map_map];rfl
 ·rw[if_neg ha,if_neg ha];rfl
abbrev P.a8p (x1:List Int×Int×Int×Unit) (g2:List Int×Int×Int×Unit->Option (ByteArray×Unit)):Option (ByteArray×Unit):=
 (fun(a:List Int) (b c:Int)=>if(a.length:Int)==0 then if decide ((Int.tmod b 10)<0)then if decide ((((List.length [wrap .u8 (wrap .i64 (48+(wrap .i64 (0 - (Int.tmod b 10)))))])+a.length)*1)<=140737488355328)then g2 ([wrap .u8 (wrap .i64 (48+(wrap .i64 (0 - (Int.tmod b 10)))))]++a,wrap .i64 (Int.tdiv b 10),c,())else none else if decide ((((List.length [wrap .u8 (wrap .i64 (48+(Int.tmod b 10)))])+a.length)*1)<=140737488355328)then g2 ([wrap .u8 (wrap .i64 (48+(Int.tmod b 10)))]++a,wrap .i64 (Int.tdiv b 10),c,())else none else if b != 0 then if decide ((Int.tmod b 10)<0)then if decide ((((List.length [wrap .u8 (wrap .i64 (48+(wrap .i64 (0 - (Int.tmod b 10)))))])+a.length)*1)<=140737488355328)then g2 ([wrap .u8 (wrap .i64 (48+(wrap .i64 (0 - (Int.tmod b 10)))))]++a,wrap .i64 (Int.tdiv b 10),c,())else none else if decide ((((List.length [wrap .u8 (wrap .i64 (48+(Int.tmod b 10)))])+a.length)*1)<=140737488355328)then g2 ([wrap .u8 (wrap .i64 (48+(Int.tmod b 10)))]++a,wrap .i64 (Int.tdiv b 10),c,())else none else if decide (c<0)then if decide (((1+a.length)*1)<=140737488355328)then some (b9k ([45]++a),())else none else some (b9k a,())) x1.1 x1.2.1 x1.2.2.1
def P.e1x (k:Nat) (x:Int×Unit):Option (ByteArray×Unit):=
 loopP P.a8p k ([],x.1,x.1,())
def g2u (u:Nat):List Int:=(Go.Lib.decDigits u).map fun b=>(b.toNat:Int)
theorem d8c {u:Nat} (h:u<10):g2u u=[48+(u:Int)]:=by
 unfold g2u;rw[Go.Lib.decDigits,dif_pos h];simp only[List.map_cons,List.map_nil,List.cons.injEq,and_true];rw[UInt8.toNat_ofNat'];omega
theorem g0w {u:Nat} (h:¬u<10):g2u u=g2u (u/10)++[48+((u%10:Nat):Int)]:=by
 unfold g2u;rw[Go.Lib.decDigits,dif_neg h,List.map_append];simp only[List.map_cons,List.map_nil];rw[UInt8.toNat_ofNat'];congr 2;omega
theorem e7j (l:List UInt8):b9k (l.map fun b=>(b.toNat:Int))=⟨l.toArray⟩:=by
 unfold b9k;rw[List.map_map];have:((fun n:Int=>UInt8.ofNat n.toNat) ∘ fun b:UInt8=>(b.toNat:Int))=id:=by
  funext b;simp
 rw[this,List.map_id]
theorem wr8 {x:Int} (h0:0<=x) (h1:x<=255):IntKind.wrap .u8 x=x:=by
 show x%256=x;omega
def sgn (neg:Bool) (u:Nat):Int:=if neg=true then -(u:Int)else(u:Int)
theorem g5w (neg:Bool) (u:Nat):Int.tmod (sgn neg u) 10=sgn neg (u%10):=by
 cases neg
 ·show Int.tmod (u:Int) 10=((u%10:Nat):Int)
  rw[Int.tmod_eq_emod_of_nonneg (by omega)];omega
 ·show Int.tmod (-(u:Int)) 10= -((u%10:Nat):Int);rw[Int.neg_tmod,Int.tmod_eq_emod_of_nonneg (by omega)];omega
theorem g5x (neg:Bool) (u:Nat):Int.tdiv (sgn neg u) 10=sgn neg (u/10):=by
 cases neg
 ·show Int.tdiv (u:Int) 10=((u/10:Nat):Int)
  rw[Int.tdiv_eq_ediv_of_nonneg (by omega)];omega
 ·show Int.tdiv (-(u:Int)) 10= -((u/10:Nat):Int);rw[Int.neg_tdiv,Int.tdiv_eq_ediv_of_nonneg (by omega)];omega
theorem e7k (neg:Bool) (u:Nat) (n:Int) (out:List Int) (g:((List Int)×(Int×(Int×Unit)))->Option (ByteArray×Unit)) (hu:u<=9223372036854775808) (hs:neg=false->u<=9223372036854775807) (ho:out.length<=1000) (hc:out=[]\/u≠0):
  P.a8p (out,sgn neg u,n,()) g=g ((48+((u%10:Nat):Int))::out,sgn neg (u/10),n,()):=by
 have hw:IntKind.wrap .i64 (sgn neg (u/10))=sgn neg (u/10):=by
  apply wr<;>unfold sgn<;>split<;>omega
 have hA:∀(a b:Option (ByteArray×Unit)),(if((decide (sgn neg (u%10)<(0:Int)))=true)then a else b)=(if(sgn neg (u%10)<0)then a else b):=by
  intro a b
  by_cases h:sgn neg (u%10)<0<;>simp [h]
 have hneg:sgn neg (u%10)<0->IntKind.wrap .i64 ((0:Int) - sgn neg (u%10))=((u%10:Nat):Int):=by
  intro h;unfold sgn at h ⊢;split at h
  ·rename_i hn;rw[if_pos hn,wr (by omega) (by omega)];omega
  ·omega
 have hpos:¬sgn neg (u%10)<0->sgn neg (u%10)=((u%10:Nat):Int):=by
  intro h;unfold sgn at h ⊢;split at h
  ·rename_i hn;rw[if_pos hn];omega
  ·rename_i hn;rw[if_neg hn]
 have hch:IntKind.wrap .u8 (IntKind.wrap .i64 ((48:Int)+((u%10:Nat):Int)))=48+((u%10:Nat):Int):=by
  rw[wr (by omega) (by omega),wr8 (by omega) (by omega)]
 have hlen:∀c:Int,((List.length (c::([]:List Int))+List.length out)*1<=140737488355328):=by
  intro c;simp;omega
 unfold P.a8p;dsimp only;have hu0:u≠0->sgn neg u≠0:=by
  intro h;unfold sgn;split<;>omega
 simp only[hA,g5w,g5x,hw];have hin:∀X Y:Option (ByteArray×Unit),(sgn neg (u%10)<0->X=g ((48+((u%10:Nat):Int))::out,sgn neg (u/10),n,()))->(¬sgn neg (u%10)<0->Y=g ((48+((u%10:Nat):Int))::out,sgn neg (u/10),n,()))->
   (if sgn neg (u%10)<0 then X else Y)=g ((48+((u%10:Nat):Int))::out,sgn neg (u/10),n,()):=by
  intro X Y h1 h2;split
  ·exact h1 (by assumption)
  ·exact h2 (by assumption)
 have key:(if sgn neg (u%10)<0 then(if((decide (((List.length ((IntKind.wrap .u8 (IntKind.wrap .i64 ((48:Int)+(IntKind.wrap .i64 ((0:Int) - sgn neg (u%10))))))::([]:List Int))+(List.length out))*(1:Nat))<=(140737488355328:Nat)))=true)then(g ((((IntKind.wrap .u8 (IntKind.wrap .i64 ((48:Int)+(IntKind.wrap .i64 ((0:Int) - sgn neg (u%10))))))::([]:List Int))++out),(sgn neg (u/10),(n,()))))else none)
   else(if((decide (((List.length ((IntKind.wrap .u8 (IntKind.wrap .i64 ((48:Int)+sgn neg (u%10))))::([]:List Int))+(List.length out))*(1:Nat))<=(140737488355328:Nat)))=true)then(g ((((IntKind.wrap .u8 (IntKind.wrap .i64 ((48:Int)+sgn neg (u%10))))::([]:List Int))++out),(sgn neg (u/10),(n,()))))else none))=g ((48+((u%10:Nat):Int))::out,sgn neg (u/10),n,()):=by
  refine hin _ _ (fun h=> ?_) (fun h=> ?_)
  ·rw[if_pos (decide_eq_true (hlen _)),hneg h,hch];rfl
  ·rw[if_pos (decide_eq_true (hlen _)),hpos h,hch];rfl
 rcases hc with rfl|hc
 ·rw[if_pos (by rfl)];exact key
 ·by_cases ho':(((List.length out):Int)==(0:Int))=true
  ·rw[if_pos ho'];exact key
  ·rw[if_neg ho',if_pos (by simpa using hu0 hc)];exact key
theorem g0x (neg:Bool) (n:Int) (out:List Int) (g:((List Int)×(Int×(Int×Unit)))->Option (ByteArray×Unit)) (ho:out.length<=1000) (hc:out≠ []):
  P.a8p (out,sgn neg 0,n,()) g=some (b9k (if n<0 then 45::out else out),()):=by
 unfold P.a8p;dsimp only;have h0:sgn neg 0=0:=by cases neg<;>rfl
 rw[if_neg (by simpa using hc),h0,if_neg (by decide)]
 by_cases hn:n<0
 ·rw[if_pos (decide_eq_true hn),if_pos (decide_eq_true (by omega)),if_pos hn];rfl
 ·rw[if_neg (by simpa using hn),if_neg hn]
theorem g5y (neg:Bool) (n:Int):∀(u:Nat) (out:List Int) (k:Nat),u≠0->u<=9223372036854775808->(neg=false->u<=9223372036854775807)->out.length+u.log2<=900->u.log2+2<=k->
  loopP P.a8p k (out,sgn neg u,n,())=some (b9k (if n<0 then 45::(g2u u++out)else g2u u++out),()):=by
 intro u
 induction u using Nat.strongRecOn with
 |ind u ih=>
  intro out k h0 hu hs ho hk;obtain⟨k,rfl⟩:∃j,k=j+1:=⟨k - 1,by omega⟩
  rw[a0j,e7k neg u n out _ hu hs (by omega) (.inr h0)]
  by_cases h:u<10
  ·have e:u/10=0:=by omega
   obtain⟨k,rfl⟩:∃j,k=j+1:=⟨k - 1,by omega⟩
   rw[e,a0j,g0x neg n _ _ (by simp;omega) (by simp),d8c h,Nat.mod_eq_of_lt h];rfl
  ·have hl:(u/10).log2+1<=u.log2:=by
    have h2:u/10≠0:=by omega
    have a1:2^(u/10).log2<=u/10:=Nat.log2_self_le h2;have a2:2^((u/10).log2+1)<=u:=by rw[Nat.pow_succ];omega
    exact(Nat.le_log2 h0).2 a2
   rw[ih (u/10) (by omega) _ k (by omega) (by omega) (fun hn=>by have:=hs hn;omega) (by simp;omega) (by omega),g0w h];simp
def S.b8t (x:(Int×Unit)):(Option (ByteArray×Unit)):=if -9223372036854775808<=x.1/\x.1<=9223372036854775807 then some (⟨(Go.Lib.itoa x.1).toArray⟩,())else none
theorem S.f1n (x r) (h:S.b8t x=some r):∃k,P.e1x k x=some r:=by
 obtain⟨n,u⟩:=x;unfold S.b8t at h;dsimp only at h;split at h
 case isFalse=>cases h
 rename_i hn;cases h;refine⟨200,?_⟩;unfold P.e1x;dsimp only;have hsg:∃neg,n=sgn neg n.natAbs/\(neg=true↔n<0):=by
  by_cases h:n<0
  ·exact⟨true,by unfold sgn;simp;omega,by simp [h]⟩
  ·exact⟨false,by unfold sgn;simp;omega,by simp [h]⟩
 obtain⟨neg,h1,h2⟩:=hsg;have hfin:b9k (if n<0 then 45::g2u n.natAbs else g2u n.natAbs)=⟨(Go.Lib.itoa n).toArray⟩:=by
  unfold Go.Lib.itoa g2u;split
  ·rw[<-e7j];rfl
  ·rw[<-e7j];have:n.natAbs=n.toNat:=by omega
   rw[this]
 by_cases h0:n.natAbs=0
 ·have hn0:n=0:=by omega
  subst hn0;have e0:(0:Int)=sgn false 0:=rfl;show loopP P.a8p (198+1+1) ([],0,0,())=_;rw[a0j]
  conv=>lhs;rw[show(([]:List Int),(0:Int),(0:Int),())=([],sgn false 0,0,())from rfl]
  rw[e7k false 0 0 [] _ (by omega) (by omega) (by simp) (.inl rfl),a0j,show 0/10=0 from rfl,g0x false 0 _ _ (by simp) (by simp),<-hfin];rw[show(0:Int).natAbs=0 from rfl,d8c (by omega)]
 ·have hb:n.natAbs<=9223372036854775808:=by omega
  have hl:n.natAbs.log2<=64:=by
   have:n.natAbs.log2<65:=(Nat.log2_lt h0).2 (by omega);omega
  have:=g5y neg n n.natAbs [] 200 h0 hb (fun hf=>by
   have:¬n<0:=fun h=>by rw[h2.2 h]at hf;cases hf
   omega) (by simp;omega) (by omega)
  rw[<-h1]at this;rw[this,List.append_nil,hfin]
abbrev P.b0h (x2:Int×List Int×ByteArray×Unit) (g3:Int×List Int×ByteArray×Unit->Option (ByteArray×Unit)):Option (ByteArray×Unit):=
 if decide (x2.1>=0)then if decide (0<=x2.1)then if decide (x2.1<(x2.2.1.length:Int))then(S.b8t (wrap .i64 ((x2.2.1.getD x2.1.toNat 0)+1000000000),())).bind fun y4=>if decide (0<=(y4.1.size:Int))then if decide ((y4.1.size:Int)<=(y4.1.size:Int))then if decide (1<=(y4.1.size:Int))then if decide ((x2.2.2.1.size+(ByteArray.size (ByteArray.extract y4.1 1 (Int.toNat (y4.1.size:Int)))))<=9223372036854775807)then g3 (wrap .i64 (x2.1 - 1),x2.2.1,x2.2.2.1++(ByteArray.extract y4.1 1 (Int.toNat (y4.1.size:Int))),())else none else none else none else none else none else none else some (x2.2.2.1,())
def P.c0l (k:Nat) (x:List Int×Unit):Option (ByteArray×Unit):=
 if(x.1.length:Int)==0 then some (bs [48],())else if decide (0<=(wrap .i64 ((x.1.length:Int) - 1)))then if decide ((wrap .i64 ((x.1.length:Int) - 1))<(x.1.length:Int))then(S.b8t (x.1.getD (Int.toNat (wrap .i64 ((x.1.length:Int) - 1))) 0,())).bind fun y0=>loopP P.b0h k (wrap .i64 ((x.1.length:Int) - 2),x.1,y0.1,())else none else none
def S.a3s (x:((List Int)×Unit)):(Option (ByteArray×Unit)):=if a2r B10 x.1=true/\x.1.length<=40000000 then some (⟨(Go.Lib.decDigits (a0c B10 x.1)).toArray⟩,())else none
theorem S.d4d (x r) (h:S.a3s x=some r):∃k,P.c0l k x=some r:=by
 obtain⟨xs,u⟩:=x;unfold S.a3s at h;dsimp only at h;split at h
 case isFalse=>cases h
 rename_i hc;obtain⟨ca,la⟩:=hc;cases h;refine⟨xs.length+1,?_⟩;unfold P.c0l;dsimp only
 by_cases he:xs=[]
 ·subst he;rw[if_pos (by rfl),show a0c B10 []=0 from rfl,a7r (by decide)];rfl
 ·have hpos:0<xs.length:=List.length_pos_iff.2 he;obtain⟨m,hm⟩:∃m,xs.length=m+1:=⟨xs.length - 1,by omega⟩
  have dx:=a1q ca;have h0:a0c B10 xs≠0:=by
   intro q;have:=a1d ca;rw[q,a1t a0d]at this;exact he this.symm
  have hdec:∀z:Int,0<=z->z<=2000000000->S.b8t (z,())=some (⟨(Go.Lib.decDigits z.toNat).toArray⟩,()):=by
   intro z z0 z1;unfold S.b8t;dsimp only;rw[if_pos ⟨by omega,by omega⟩];unfold Go.Lib.itoa;rw[if_neg (by omega)]
  have hnz:∀i,i<=m->a0c B10 (xs.drop i)≠0:=by
   intro i hi q;have h1:=a0y (B:=B10) (xs.take i) (xs.drop i);rw[List.take_append_drop,q,Nat.mul_zero,Nat.add_zero]at h1;have h2:=a1n (d9r dx i);have h3:(xs.take i).length=i:=by simp;omega
   rw[h3]at h2;have h4:=e4h a0d h0;rw[a1d ca,hm,Nat.add_sub_cancel]at h4;have h5:B10^i<=B10^m:=Nat.pow_le_pow_right (by decide) hi;omega
  have hlenD:∀i,(Go.Lib.decDigits (a0c B10 (xs.drop i))).length<=9*xs.length:=by
   intro i;have h1:=a1n (f2r dx i);have h2:B10^(xs.drop i).length<=B10^xs.length:=Nat.pow_le_pow_right (by decide) (by simp);rw[show B10=10^9 by decide,<-Nat.pow_mul,<-Nat.pow_mul]at h2;rw[show B10^(xs.drop i).length=10^(9*(xs.drop i).length) by rw[show B10=10^9 by decide,<-Nat.pow_mul]]at h1;exact e9n (by omega) (by omega)
  have c1:(0:Int)<=(m:Int):=by omega
  have c2:(m:Int)<((m+1:Nat):Int):=by omega
  rw[if_neg (by simp;exact he),hm,wr (x:=((m+1:Nat):Int) - 1) (by omega) (by omega),wr (x:=((m+1:Nat):Int) - 2) (by omega) (by omega),show((m+1:Nat):Int) - 1=(m:Int) by omega,if_pos (decide_eq_true c1),if_pos (decide_eq_true c2),Int.toNat_natCast];have gx:=a1b (B:=B10) (by decide) dx m;have gx1:xs.getD m 0<1000000000:=gx.2;rw[hdec _ gx.1 (by omega),Option.bind_some];have hlast:(xs.getD m 0).toNat=a0c B10 (xs.drop m):=by
   rw[d1g (by omega),List.drop_of_length_le (by omega)];simp [a0c]
  rw[hlast];have key:=a0f (k:=m+1+1) (b:=P.b0h) (n:=m) (st:=fun i=>((m:Int) - 1 - (i:Int),xs,(⟨(Go.Lib.decDigits (a0c B10 (xs.drop (m - i)))).toArray⟩:ByteArray),())) (F:=fun i=>some (⟨(Go.Lib.decDigits (a0c B10 xs)).toArray⟩,())) (fun i g hi hg=>by
   unfold P.b0h;dsimp only at hg ⊢;obtain⟨j,hj⟩:∃j,m - i=j+1:=⟨m - i - 1,by omega⟩
   rw[show m - (i+1)=j by omega,show(m:Int) - 1 - ((i+1:Nat):Int)=(j:Int) - 1 by omega]at hg;rw[hj,show(m:Int) - 1 - (i:Int)=(j:Int) by omega];have d1:(j:Int)>=0:=by omega
   have d2:(0:Int)<=(j:Int):=by omega
   have d3:(j:Int)<(xs.length:Int):=by omega
   have gx:=a1b (B:=B10) (by decide) dx j;have gx1:xs.getD j 0<1000000000:=gx.2;have gx0:=gx.1;rw[if_pos (decide_eq_true d1),if_pos (decide_eq_true d2),if_pos (decide_eq_true d3),Int.toNat_natCast,wr (x:=xs.getD j 0+1000000000) (by omega) (by omega),hdec _ (by omega) (by omega),Option.bind_some];dsimp only;obtain⟨z,hz⟩:∃z:Nat,xs.getD j 0=(z:Int):=⟨(xs.getD j 0).toNat,by omega⟩
   have hzl:z<10^9:=by rw[show(10:Nat)^9=1000000000 by decide];omega
   have e1:=g4g z (xs.getD j 0) hz hzl;rw[e1];have hs:(⟨(49::a5z 9 z).toArray⟩:ByteArray).size=10:=by rw[c6f,List.length_cons,c6g]
   have hx:ByteArray.extract ⟨(49::a5z 9 z).toArray⟩ 1 10=⟨(a5z 9 z).toArray⟩:=by
    apply ByteArray.ext;rw[ByteArray.data_extract];have hl:(a5z 9 z).length=9:=c6g _ _;simp [List.extract_toArray,List.take_of_length_le,hl]
   rw[hs];have f1:(0:Int)<=((10:Nat):Int):=by decide
   have f2:(1:Int)<=((10:Nat):Int):=by decide
   rw[if_pos (decide_eq_true f1),if_pos (decide_eq_true (Int.le_refl _)),if_pos (decide_eq_true f2),show(((10:Nat):Int)).toNat=10 from rfl,hx];have hl1:=hlenD (j+1);have f3:(⟨(Go.Lib.decDigits (a0c B10 (xs.drop (j+1)))).toArray⟩:ByteArray).size+(⟨(a5z 9 z).toArray⟩:ByteArray).size<=9223372036854775807:=by
    rw[c6f,c6f,c6g];omega
   rw[if_pos (decide_eq_true f3),c1u,wr (x:=(j:Int) - 1) (by omega) (by omega)];have e2:Go.Lib.decDigits (a0c B10 (xs.drop (j+1)))++a5z 9 z=Go.Lib.decDigits (a0c B10 (xs.drop j)):=by
    rw[d1g (xs:=xs) (i:=j) (by omega),hz,Int.toNat_natCast];generalize hD:a0c B10 (xs.drop (j+1))=D;have hD0:0<D:=by rw[<-hD];exact Nat.pos_of_ne_zero (hnz (j+1) (by omega))
    have e3:z+B10*D=D*10^9+z:=by rw[Nat.add_comm,Nat.mul_comm]
    rw[e3,d1j 9 D z hD0 hzl]
   rw[e2];exact hg) (fun g=>by
   unfold P.b0h;dsimp only;rw[if_neg (by simp;omega),Nat.sub_self,List.drop_zero]) (by omega)
  rw[Nat.sub_zero,show(m:Int) - 1 - ((0:Nat):Int)=((m+1:Nat):Int) - 2 by omega]at key;exact key
def P.c5a (k:Nat) (x:RB×Unit):Option (Bool×Unit):=
 (S.a3s (x.1.2.1,())).bind fun y0=>if decide ((y0.1.size:Int)<=200)then(S.a3s (x.1.2.2,())).bind fun y1=>some (decide ((y1.1.size:Int)<=200),())else some (false,())
def S.c5b (x:(RB×Unit)):(Option (Bool×Unit)):=P.c5a 0 x
theorem S.e7l (x r) (h:S.c5b x=some r):∃k,P.c5a k x=some r:=⟨0,h⟩
def P.c5c (k:Nat) (x:RB×Unit):Option (ByteArray×Unit):=
 (S.a3s (x.1.2.1,())).bind fun y0=>if x.1.1 then if decide ((1+y0.1.size)<=9223372036854775807)then(S.a0o (x.1.2.2,[1],())).bind fun y1=>if y1.1 != 0 then(S.a3s (x.1.2.2,())).bind fun y2=>if decide ((1+y2.1.size)<=9223372036854775807)then if decide (((ByteArray.size ((bs [45])++y0.1))+(ByteArray.size ((bs [47])++y2.1)))<=9223372036854775807)then some (((bs [45])++y0.1)++((bs [47])++y2.1),())else none else none else some ((bs [45])++y0.1,())else none else(S.a0o (x.1.2.2,[1],())).bind fun y3=>if y3.1 != 0 then(S.a3s (x.1.2.2,())).bind fun y4=>if decide ((1+y4.1.size)<=9223372036854775807)then if decide ((y0.1.size+(ByteArray.size ((bs [47])++y4.1)))<=9223372036854775807)then some (y0.1++((bs [47])++y4.1),())else none else none else some (y0.1,())
def S.c5d (x:(RB×Unit)):(Option (ByteArray×Unit)):=P.c5c 0 x
theorem S.e7m (x r) (h:S.c5d x=some r):∃k,P.c5c k x=some r:=⟨0,h⟩
def P.d4e (k:Nat) (x:RB×Unit):Option ((ByteArray×Bool)×Unit):=
 (S.c5b ((x.1.1,x.1.2.1,x.1.2.2),())).bind fun y0=>if !y0.1 then some ((bs [],false),())else(S.c5d ((x.1.1,x.1.2.1,x.1.2.2),())).bind fun y1=>some ((y1.1,true),())
def S.b5i (x:(RB×Unit)):(Option ((ByteArray×Bool)×Unit)):=if rok B10 40000000 x.1=true then some (d5k (rv B10 x.1),())else none
theorem S.e7n (x r) (h:S.b5i x=some r):∃k,P.d4e k x=some r:=by
 obtain⟨⟨neg,as,bs'⟩,u⟩:=x;unfold S.b5i at h;dsimp only at h;split at h
 case isFalse=>cases h
 rename_i hc;cases h;rw[b9s]at hc;obtain⟨ca,cb,la,lb⟩:=hc;dsimp only at ca cb la lb;refine⟨0,?_⟩;unfold P.d4e S.c5b S.c5d P.c5a P.c5c;dsimp only;have e1:∀xs,a2r B10 xs=true->xs.length<=40000000->S.a3s (xs,())=some (⟨(Go.Lib.decDigits (a0c B10 xs)).toArray⟩,()):=by
  intro xs cx lx;unfold S.a3s;exact if_pos ⟨cx,lx⟩
 have e3:S.a0o (bs',([1],()))=some (b1d (a0c B10 bs') 1,()):=by
  unfold S.a0o;dsimp only;rw[if_pos ⟨cb,b6w a0d,by omega⟩,b8a]
 rw[e1 as ca la,Option.bind_some,e1 bs' cb lb,Option.bind_some,e3,Option.bind_some];dsimp only;have l1:=c3x (show B10<=10^10 by decide) ca;have l2:=c3x (show B10<=10^10 by decide) cb;unfold d5k rv c8t d9x;dsimp only;generalize Go.Lib.decDigits (a0c B10 as)=t1 at*;generalize Go.Lib.decDigits (a0c B10 bs')=t2 at*;rw[show bs [45]=⟨([45]:List UInt8).toArray⟩from rfl,show bs [47]=⟨([47]:List UInt8).toArray⟩from rfl];simp only[Option.bind_some];rw[c1u,c1u,c1u,c1u,c6f,c6f,c6f,c6f];have c1:(1+t1.length<=9223372036854775807):=by omega
 have c2:(1+t2.length<=9223372036854775807):=by omega
 have c3:([45]++t1).length+([47]++t2).length<=9223372036854775807:=by simp;omega
 have c4:t1.length+([47]++t2).length<=9223372036854775807:=by simp;omega
 simp only[c1,c2,c3,c4,decide_true,if_true];have d1:∀t:List UInt8,decide (((t.length:Nat):Int)<=200)=decide (t.length<=200):=by
  intro t;rw[decide_eq_decide];omega
 rw[d1,d1];have d2:((b1d (a0c B10 bs') 1 != 0)=true)↔¬a0c B10 bs'=1:=by
  rw[<-a4v (b:=1)];simp
 by_cases f1:t1.length<=200
 ·by_cases f2:t2.length<=200
  ·by_cases hq:a0c B10 bs'=1
   ·have n2:¬((b1d 1 1 != 0)=true):=by decide
    cases neg<;>simp only[f1,f2,n2,hq,decide_true,if_true,if_false,Bool.false_eq_true,List.append_nil,List.nil_append,Option.bind_some,Bool.not_true,Bool.and_true]
   ·have n2:((b1d (a0c B10 bs') 1 != 0)=true):=d2.2 hq;cases neg<;>simp only[f1,f2,n2,hq,decide_true,if_true,if_false,Bool.false_eq_true,List.nil_append,Option.bind_some,Bool.not_true,Bool.and_true]<;>simp
  ·simp [f1,f2]
 ·simp [f1]
abbrev P.b0i (x1:Int×Int×List RB×List ByteArray×Unit) (g2:Int×Int×List RB×List ByteArray×Unit->Option ((List ByteArray×Bool)×Unit)):Option ((List ByteArray×Bool)×Unit):=
 if decide (x1.1<x1.2.1)then if decide (0<=x1.1)then if decide (x1.1<(x1.2.2.1.length:Int))then(S.b5i (((x1.2.2.1.getD x1.1.toNat (false,[],[])).1,(x1.2.2.1.getD x1.1.toNat (false,[],[])).2.1,(x1.2.2.1.getD x1.1.toNat (false,[],[])).2.2),())).bind fun y3=>if !y3.1.2 then some (([],false),())else if decide (((x1.2.2.2.1.length+(List.length [y3.1.1]))*16)<=140737488355328)then g2 (wrap .i64 (x1.1+1),x1.2.1,x1.2.2.1,x1.2.2.2.1++[y3.1.1],())else none else none else none else some ((x1.2.2.2.1,true),())
def P.c0m (k:Nat) (x:List RB×Unit):Option ((List ByteArray×Bool)×Unit):=
 loopP P.b0i k (0,(x.1.length:Int),x.1,[],())
def S.a9e (x:((List RB)×Unit)):(Option (((List ByteArray)×Bool)×Unit)):=if x.1.all (rok B10 40000000)=true/\x.1.length<=1000000 then some (a9f (x.1.map (rv B10)),())else none
theorem S.d4f (x r) (h:S.a9e x=some r):∃k,P.c0m k x=some r:=by
 obtain⟨xs,u⟩:=x;unfold S.a9e at h;dsimp only at h;split at h
 case isFalse=>cases h
 rename_i hc;cases h;obtain⟨qs,rfl⟩:∃qs:List Q3,xs=qs.map (rp B10):=⟨xs.map (rv B10),by
  rw[List.map_map];have:∀ys:List (Bool×(List Int×List Int)),ys.all (rok B10 40000000)=true->ys.map (rp B10 ∘ rv B10)=ys:=by
   intro ys
   induction ys with
   |nil=>intro _;rfl
   |cons y ys ih=>
    intro hy;rw[List.all_cons,Bool.and_eq_true]at hy;rw[List.map_cons,ih hy.2];show rp B10 (rv B10 y)::ys=_;rw[h3f hy.1]
  exact(this xs hc.1).symm⟩
 have hlen:=hc.2;rw[List.length_map]at hlen;refine⟨qs.length+1,?_⟩;unfold P.c0m a9f;dsimp only;have key:=a0f (k:=qs.length+1) (b:=P.b0i) (n:=qs.length) (st:=fun i=>((i:Int),(qs.length:Int),qs.map (rp B10),(qs.take i).map (fun r:Q3=>(⟨(c8t r).toArray⟩:ByteArray)),())) (F:=fun i=>some (if(qs.drop i).all d9x=true then(qs.map (fun r:Q3=>(⟨(c8t r).toArray⟩:ByteArray)),true)else([],false),())) (fun i g hi hg'=>by
  unfold P.b0i;dsimp only at hg' ⊢;have e1:(i:Int)<(qs.length:Int):=by omega
  have e2:(0:Int)<=(i:Int):=by omega
  have e3:(i:Int)<((qs.map (rp B10)).length:Int):=by rw[List.length_map];omega
  simp only[e1,e2,e3,decide_true,if_true];rw[a0n (qs.map (rp B10)) i _ (by rw[List.length_map];exact hi),List.getElem_map];have ht:S.b5i (rp B10 qs[i],())=some (d5k qs[i],()):=by
   unfold S.b5i;dsimp only;rw[if_pos (by have:=List.all_eq_true.1 hc.1 _ (List.mem_map.2 ⟨qs[i],List.getElem_mem hi,rfl⟩);exact this),a4t a0d]
  show Option.bind (S.b5i (rp B10 qs[i],())) _=_;rw[ht,Option.bind_some,List.drop_eq_getElem_cons hi,List.all_cons];dsimp only;cases hf:d9x qs[i]
  ·have hv:d5k qs[i]=(bs [],false):=by unfold d5k;rw[hf];rfl
   rw[hv,if_pos (by decide),Bool.false_and,if_neg (by decide)]
  ·have hv:d5k qs[i]=(⟨(c8t qs[i]).toArray⟩,true):=by unfold d5k;rw[hf];rfl
   rw[hv];have e4:(((qs.take i).map (fun r:Q3=>(⟨(c8t r).toArray⟩:ByteArray))).length+1)*16<=140737488355328:=by
    rw[List.length_map,List.length_take];omega
   rw[if_neg (by simp),wr (by omega) (by omega),Bool.true_and,<-hg'];simp only[List.length_cons,List.length_nil,Nat.zero_add];rw[if_pos (decide_eq_true e4),List.take_add_one,List.getElem?_eq_getElem hi,Option.toList_some,List.map_append];rfl) (fun g=>by
  unfold P.b0i;dsimp only;rw[if_neg (by simp),List.take_length,List.drop_length];rfl) (by omega)
 rw[b3i a0d,List.length_map];refine key.trans ?_;rw[List.drop_zero]
 by_cases ha:qs.all d9x=true
 ·rw[if_pos ha,if_pos ha];congr 3;refine List.map_congr_left fun r hr=> ?_
  unfold d5k;rw[if_pos (List.all_eq_true.1 ha r hr)]
 ·rw[if_neg ha,if_neg ha]
abbrev s_l03Give.A:=Int×Int×List (List RB)×List (List ByteArray)×List (List ByteArray×Nat)×Unit
abbrev s_l03Give.B:=Option (((List (List ByteArray×Nat)×Nat)×Bool)×Unit)
abbrev P.b6e (x1:s_l03Give.A) (g2:s_l03Give.A->s_l03Give.B):s_l03Give.B:=
 if decide (x1.1<x1.2.1)then if decide (0<=x1.1)then if decide (x1.1<(x1.2.2.1.length:Int))then(S.a9e (x1.2.2.1.getD x1.1.toNat [],())).bind fun y3=>if !y3.1.2 then some (((([]:List (List ByteArray×Nat)),0),false),())else if decide ((((List.length (hd0 x1.2.2.2.2.1))+(List.length (hd0 [(y3.1.1,y3.1.1.length)])))*24)<=140737488355328)then if dup (List.map (fun(y4:Nat×Nat)=>y4.1) (a7k (List.length (in0 x1.2.2.2.2.1)) (hd0 x1.2.2.2.2.1) (hd0 [(y3.1.1,y3.1.1.length)])))then none else g2 (wrap .i64 (x1.1+1),x1.2.1,x1.2.2.1,x1.2.2.2.1,nrm (a7k (List.length (in0 x1.2.2.2.2.1)) (hd0 x1.2.2.2.2.1) (hd0 [(y3.1.1,y3.1.1.length)])) ((in0 x1.2.2.2.2.1)++[y3.1.1]),())else none else none else none else if dup (List.map (fun(y5:Nat×Nat)=>y5.1) (hd0 x1.2.2.2.2.1))then none else some (((nrm (hd0 x1.2.2.2.2.1) (in0 x1.2.2.2.2.1),List.length (hd0 x1.2.2.2.2.1)),true),())
def P.d4g (k:Nat) (x:List (List RB)×Unit):s_l03Give.B:=
 loopP P.b6e k (0,(x.1.length:Int),x.1,[],[],())
open Classical in
def S.b7f (x:((List (List RB))×Unit)):(Option (((((List ((List ByteArray)×Nat))×Nat))×Bool)×Unit)):=if ∃M,okM M/\x.1=mp B10 M then some (g2h (e2q (mv B10 x.1)),())else none
theorem S.e7o (x r) (h:S.b7f x=some r):∃k,P.d4g k x=some r:=by
 obtain⟨m,u⟩:=x;unfold S.b7f at h;dsimp only at h;split at h
 case isFalse=>cases h
 rename_i hc;obtain⟨M,hM,rfl⟩:=hc;cases h;rw[b3r (by decide)];have hn:=hM.1;refine⟨13,?_⟩;unfold P.d4g;dsimp only;rw[a4b];have key:=a0f (k:=13) (b:=P.b6e) (n:=M.length) (st:=fun i=>((i:Int),(M.length:Int),mp B10 M,([]:List (List ByteArray)),(M.take i).map (fun r=>((a9f r).1,(a9f r).1.length)),())) (F:=fun i=>some (if((M.drop i).all fun r=>r.all d9x)=true then((M.map (fun r=>((a9f r).1,(a9f r).1.length)),M.length),true)else(([],0),false),())) (fun i g hi hg=>by
  unfold P.b6e;dsimp only at hg ⊢;have e1:(i:Int)<(M.length:Int):=by omega
  have e2:(0:Int)<=(i:Int):=by omega
  have hr:M.getD i []=M[i]:=by rw[List.getD_eq_getElem?_getD,List.getElem?_eq_getElem hi];rfl
  have hmi:=hM.2 M[i] (List.getElem_mem hi);have eg:S.a9e (M[i].map (rp B10),())=some (a9f M[i],()):=by
   unfold S.a9e;dsimp only;rw[if_pos ⟨g2j (by decide) hmi.2,by rw[List.length_map];omega⟩,b3i a0d]
  simp only[a4b,Int.toNat_natCast,f5g hi,hr,e1,e2,decide_true,if_true];rw[eg,Option.bind_some];dsimp only;rw[e7z,List.drop_eq_getElem_cons hi,List.all_cons];cases hf:M[i].all d9x
  ·rw[if_pos (by decide),Bool.false_and,if_neg (by decide)]
  ·have e3:(((M.take i).map (fun r=>((a9f r).1,(a9f r).1.length))).length+1)*24<=140737488355328:=by
    rw[List.length_map,List.length_take];omega
   have e4:= @g2i ByteArray ((M.take i).map (fun r=>((a9f r).1,(a9f r).1.length))) (a9f M[i]).1 (a9f M[i]).1.length;rw[if_neg (by decide),Bool.true_and];simp only[a0k,List.length_cons,List.length_nil,Nat.zero_add,e3,e4.1,e4.2,decide_true,if_true,Bool.false_eq_true,if_false];rw[wr (by omega) (by omega)];rw[<-List.take_append_getElem hi,List.map_append]at hg;exact hg) (fun g=>by
  unfold P.b6e;dsimp only;rw[if_neg (by simp),a0r,a0w,a0k,if_neg (by decide),List.take_length,List.length_map,List.drop_length];rfl) (by omega)
 refine Eq.trans ?_ (key.trans ?_)
 ·rfl
 ·rw[List.drop_zero];unfold e2q;split
  ·unfold g2h;dsimp only;rw[List.map_map,List.length_map];rfl
  ·rfl
theorem e7p {M:List (List Q3)} (h:okM M):S.b7f (mp B10 M,())=some (g2h (e2q M),()):=by
 unfold S.b7f;dsimp only;rw[if_pos ⟨M,h,rfl⟩,b3r (by decide)]
def P.c7o (k:Nat) (x:RB×RB×Unit):Option (RB×Unit):=
 (S.a1f (x.1.2.1,x.2.1.2.1,())).bind fun y0=>(S.a1f (x.1.2.2,x.2.1.2.2,())).bind fun y1=>(S.a5t (! (x.1.1==x.2.1.1),y0.1,y1.1,())).bind fun y2=>some ((y2.1.1,y2.1.2.1,y2.1.2.2),())
def S.a7g (x:(RB×(RB×Unit))):(Option (RB×Unit)):=if c4b B10 40000000 x.1=true/\c4b B10 40000000 x.2.1=true then some (rp B10 (b8c (rv B10 x.1) (rv B10 x.2.1)),())else none
theorem S.e1y (x r) (h:S.a7g x=some r):∃k,P.c7o k x=some r:=by
 obtain⟨x,y,u⟩:=x;unfold S.a7g at h;dsimp only at h;split at h
 case isFalse=>cases h
 rename_i hc;obtain⟨hx,hy⟩:=hc;cases h;rw[a8f]at hx hy;obtain⟨hx,lx⟩:=hx;obtain⟨hy,ly⟩:=hy;obtain⟨n1,p1,q1,rfl,x1,x2⟩:=b2p hx;obtain⟨n2,p2,q2,rfl,y1,y2⟩:=b2p hy;rw[b9v a0d]at lx ly ⊢;rw[b9v a0d];have hq1:0<q1:=lx.1;have hq2:0<q2:=ly.1;have m1:=a4w a0d p1 p2;have m2:=a4w a0d q1 q2;have mul:∀p q:Nat,(nd B10 p).length<=100000000->(nd B10 q).length<=100000000->S.a1f (nd B10 p,(nd B10 q,()))=some (nd B10 (p*q),()):=by
  intro p q hp hq;unfold S.a1f;dsimp only;rw[if_pos ⟨a3z a0d _,a3z a0d _,by omega,by omega⟩,a0i a0d,a0i a0d]
 refine⟨0,?_⟩;unfold P.c7o b8c;dsimp only;rw[mul p1 p2 (by omega) (by omega),Option.bind_some,mul q1 q2 (by omega) (by omega),Option.bind_some];unfold S.a5t;dsimp only;rw[if_pos ⟨a0m a0d _,a0m a0d _,f5a a0d (Nat.ne_of_gt (Nat.mul_pos hq1 hq2)),by omega,by omega⟩,Option.bind_some,a0i a0d,a0i a0d];rfl
theorem g8e {x y:Q3} {m n:Nat} (hx:low x) (bx:below m x) (hy:low y) (bY:below n y) (hm:m<=350000000) (hn:n<=350000000):S.a7g (rp B10 x,(rp B10 y,()))=some (rp B10 (b8c x y),()):=by
 unfold S.a7g;dsimp only;rw[if_pos ⟨a4m (by decide) hx bx (by omega),a4m (by decide) hy bY (by omega)⟩,a4t a0d,a4t a0d]
def P.d4h (k:Nat) (x:RB×RB×Unit):Option (RB×Unit):=
 (S.a1f (x.1.2.1,x.2.1.2.2,())).bind fun y0=>(S.a1f (x.1.2.2,x.2.1.2.1,())).bind fun y1=>(S.a5t (! (x.1.1==x.2.1.1),y0.1,y1.1,())).bind fun y2=>some ((y2.1.1,y2.1.2.1,y2.1.2.2),())
def S.a7y (x:(RB×(RB×Unit))):(Option (RB×Unit)):=if c4b B10 40000000 x.1=true/\c4b B10 40000000 x.2.1=true/\(rv B10 x.2.1).2.1≠0 then some (rp B10 (a2p (rv B10 x.1) (rv B10 x.2.1)),())else none
theorem S.e7q (x r) (h:S.a7y x=some r):∃k,P.d4h k x=some r:=by
 obtain⟨x,y,u⟩:=x;unfold S.a7y at h;dsimp only at h;split at h
 case isFalse=>cases h
 rename_i hc;obtain⟨hx,hy,h0⟩:=hc;cases h;rw[a8f]at hx hy;obtain⟨hx,lx⟩:=hx;obtain⟨hy,ly⟩:=hy;obtain⟨n1,p1,q1,rfl,x1,x2⟩:=b2p hx;obtain⟨n2,p2,q2,rfl,y1,y2⟩:=b2p hy;rw[b9v a0d]at lx ly h0 ⊢;rw[b9v a0d];have hq1:0<q1:=lx.1;have hq2:0<p2:=Nat.pos_of_ne_zero h0;have m1:=a4w a0d p1 q2;have m2:=a4w a0d q1 p2;have mul:∀p q:Nat,(nd B10 p).length<=100000000->(nd B10 q).length<=100000000->S.a1f (nd B10 p,(nd B10 q,()))=some (nd B10 (p*q),()):=by
  intro p q hp hq;unfold S.a1f;dsimp only;rw[if_pos ⟨a3z a0d _,a3z a0d _,by omega,by omega⟩,a0i a0d,a0i a0d]
 refine⟨0,?_⟩;unfold P.d4h a2p;dsimp only;rw[mul p1 q2 (by omega) (by omega),Option.bind_some,mul q1 p2 (by omega) (by omega),Option.bind_some];unfold S.a5t;dsimp only;rw[if_pos ⟨a0m a0d _,a0m a0d _,f5a a0d (Nat.ne_of_gt (Nat.mul_pos hq1 hq2)),by omega,by omega⟩,Option.bind_some,a0i a0d,a0i a0d];rfl
theorem g0y {x y:Q3} {m n:Nat} (hx:low x) (bx:below m x) (hy:low y) (bY:below n y) (h0:y.2.1≠0) (hm:m<=350000000) (hn:n<=350000000):S.a7y (rp B10 x,(rp B10 y,()))=some (rp B10 (a2p x y),()):=by
 unfold S.a7y;dsimp only;rw[if_pos ⟨a4m (by decide) hx bx (by omega),a4m (by decide) hy bY (by omega),by rw[a4t a0d];exact h0⟩,a4t a0d,a4t a0d]
abbrev P.b8u (x1:Int×List Int×Int×Unit) (g2:Int×List Int×Int×Unit->Option (Bool×Unit)):Option (Bool×Unit):=
 if decide (x1.1<(x1.2.1.length:Int))then if decide (0<=x1.1)then if decide (x1.1<(x1.2.1.length:Int))then if(x1.2.1.getD x1.1.toNat 0)==x1.2.2.1 then some (true,())else g2 (wrap .i64 (x1.1+1),x1.2.1,x1.2.2.1,())else none else none else some (false,())
def P.e1z (k:Nat) (x:List Int×Int×Unit):Option (Bool×Unit):=
 loopP P.b8u k (0,x.1,x.2.1,())
def S.b4a (x:((List Int)×(Int×Unit))):(Option (Bool×Unit)):=if x.1.length<=1000000 then some (decide (x.2.1∈x.1),())else none
theorem S.f1o (x r) (h:S.b4a x=some r):∃k,P.e1z k x=some r:=by
 obtain⟨xs,n,u⟩:=x;unfold S.b4a at h;dsimp only at h;split at h
 case isFalse=>cases h
 rename_i hc;cases h;refine⟨xs.length+1,?_⟩;unfold P.e1z;dsimp only;have key:=a0f (k:=xs.length+1) (b:=P.b8u) (n:=xs.length) (st:=fun i=>((i:Int),xs,n,())) (F:=fun i=>some (decide (n∈xs.drop i),())) (fun i g hi hg=>by
  unfold P.b8u;dsimp only at hg ⊢;have e1:(i:Int)<(xs.length:Int):=by omega
  have e2:(0:Int)<=(i:Int):=by omega
  simp only[e1,e2,decide_true,if_true];rw[a0n xs i _ hi,List.drop_eq_getElem_cons hi,wr (by omega) (by omega)]
  by_cases he:xs[i]=n
  ·rw[if_pos (by simp [he]),decide_eq_true (by rw[he];exact List.mem_cons_self ..)]
  ·rw[if_neg (by simp [he])];refine Eq.trans hg ?_;congr 2;rw[decide_eq_decide,List.mem_cons];exact⟨Or.inr,fun h=>h.resolve_left fun e=>he e.symm⟩) (fun g=>by
  unfold P.b8u;dsimp only;rw[if_neg (by simp),List.drop_length];rfl) (by omega)
 rw[List.drop_zero]at key;exact key
abbrev P.a5n (x1:Int×List Int×Bool×Int×List Int×Unit) (g2:Int×List Int×Bool×Int×List Int×Unit->Option (List Int×Unit)):Option (List Int×Unit):=
 (fun(a d:Int) (b e:List Int) (c:Bool)=>if decide (a<(b.length:Int))then if !c then if decide (0<=a)then if decide (a<(b.length:Int))then if decide ((b.getD a.toNat 0)>=d)then if decide (0<=a)then if decide (a<(b.length:Int))then if decide ((b.getD a.toNat 0)>d)then if decide (((e.length+(List.length [d]))*8)<=140737488355328)then if decide (0<=a)then if decide (a<(b.length:Int))then if decide ((((List.length (e++[d]))+(List.length [b.getD a.toNat 0]))*8)<=140737488355328)then g2 (wrap .i64 (a+1),b,true,d,(e++[d])++[b.getD a.toNat 0],())else none else none else none else none else if decide (0<=a)then if decide (a<(b.length:Int))then if decide (((e.length+(List.length [b.getD a.toNat 0]))*8)<=140737488355328)then g2 (wrap .i64 (a+1),b,true,d,e++[b.getD a.toNat 0],())else none else none else none else none else none else if decide (0<=a)then if decide (a<(b.length:Int))then if decide (((e.length+(List.length [b.getD a.toNat 0]))*8)<=140737488355328)then g2 (wrap .i64 (a+1),b,c,d,e++[b.getD a.toNat 0],())else none else none else none else none else none else if decide (0<=a)then if decide (a<(b.length:Int))then if decide (((e.length+(List.length [b.getD a.toNat 0]))*8)<=140737488355328)then g2 (wrap .i64 (a+1),b,c,d,e++[b.getD a.toNat 0],())else none else none else none else if !c then if decide (((e.length+(List.length [d]))*8)<=140737488355328)then some (e++[d],())else none else some (e,())) x1.1 x1.2.2.2.1 x1.2.1 x1.2.2.2.2.1 x1.2.2.1
def P.e2a (k:Nat) (x:List Int×Int×Unit):Option (List Int×Unit):=
 loopP P.a5n k (0,x.1,false,x.2.1,[],())
def S.c1m (x:((List Int)×(Int×Unit))):(Option ((List Int)×Unit)):=if x.1.length<=1000000 then some (g4p x.1 x.2.1,())else none
theorem S.f1p (x r) (h:S.c1m x=some r):∃k,P.e2a k x=some r:=by
 obtain⟨xs,n,u⟩:=x;unfold S.c1m at h;dsimp only at h;split at h
 case isFalse=>cases h
 rename_i hc;cases h;refine⟨xs.length+1,?_⟩;unfold P.e2a;dsimp only;have all:∀m i k out,i+m=xs.length->m<k->out.length<=i+1->loopP P.a5n k ((i:Int),xs,true,n,out,())=some (out++xs.drop i,()):=by
  intro m
  induction m with
  |zero=>
   intro i k out hi hk _;cases k with
   |zero=>omega
   |succ k=>
    rw[a0j];unfold P.a5n;dsimp only;rw[if_neg (by simp;omega),List.drop_of_length_le (by omega),List.append_nil];rfl
  |succ m ih=>
   intro i k out hi hk ho;cases k with
   |zero=>omega
   |succ k=>
    have hi':i<xs.length:=by omega
    have e1:(i:Int)<(xs.length:Int):=by omega
    have e2:(0:Int)<=(i:Int):=by omega
    have e3:(out.length+1)*8<=140737488355328:=by omega
    have:=ih (i+1) k (out++[xs[i]]) (by omega) (by omega) (by simp;omega);rw[a0j];generalize loopP P.a5n k=G at this ⊢;unfold P.a5n;dsimp only;simp only[e1,e2,e3,decide_true,if_true,Bool.not_true,Bool.false_eq_true,if_false,List.length_cons,List.length_nil,Nat.zero_add];rw[a0n xs i _ hi',wr (by omega) (by omega)];rw[List.drop_eq_getElem_cons hi'];rw[List.append_assoc]at this;exact this
 have key:∀m i k,i+m=xs.length->m<k->loopP P.a5n k ((i:Int),xs,false,n,xs.take i,())=some (xs.take i++g4p (xs.drop i) n,()):=by
  intro m
  induction m with
  |zero=>
   intro i k hi hk;cases k with
   |zero=>omega
   |succ k=>
    have e3:((xs.take i).length+1)*8<=140737488355328:=by rw[List.length_take];omega
    rw[a0j];unfold P.a5n;dsimp only;rw[if_neg (by simp;omega),if_pos (show(!false)=true from rfl),List.drop_of_length_le (by omega)];simp only[List.length_cons,List.length_nil,Nat.zero_add,e3,decide_true,if_true];rfl
  |succ m ih=>
   intro i k hi hk;cases k with
   |zero=>omega
   |succ k=>
    have hi':i<xs.length:=by omega
    have e1:(i:Int)<(xs.length:Int):=by omega
    have e2:(0:Int)<=(i:Int):=by omega
    have hl:(xs.take i).length=i:=by rw[List.length_take];omega
    have e3:(i+1)*8<=140737488355328:=by omega
    have e4:(i+1+1)*8<=140737488355328:=by omega
    have t1:=all m (i+1) k ((xs.take i++[n])++[xs[i]]) (by omega) (by omega) (by simp;omega);have t2:=all m (i+1) k (xs.take i++[xs[i]]) (by omega) (by omega) (by simp;omega);have t3:=ih (i+1) k (by omega) (by omega);rw[a0j];generalize loopP P.a5n k=G at t1 t2 t3 ⊢;unfold P.a5n;dsimp only;simp only[e1,e2,e3,e4,hl,decide_true,if_true,Bool.not_false,List.length_append,List.length_cons,List.length_nil,Nat.zero_add];rw[a0n xs i _ hi',wr (by omega) (by omega),List.drop_eq_getElem_cons hi',g4p]
    by_cases h1:n<=xs[i]
    ·rw[if_pos (decide_eq_true h1),if_pos h1]
     by_cases h2:n<xs[i]
     ·rw[if_pos (decide_eq_true h2),if_pos h2];refine Eq.trans t1 ?_;simp
     ·rw[if_neg (by simpa using h2),if_neg h2];refine Eq.trans t2 ?_;simp
    ·rw[if_neg (by simpa using h1),if_neg h1];rw[<-List.take_append_getElem hi',List.append_assoc]at t3;exact t3
 have:=key xs.length 0 (xs.length+1) (by omega) (by omega);simpa using this
def P.c0n (k:Nat) (x:RB×Unit):Option (Bool×Unit):=
 some ((x.1.2.1.length:Int)==0,())
def S.b0j (x:(RB×Unit)):(Option (Bool×Unit)):=P.c0n 0 x
theorem S.e7r (x r) (h:S.b0j x=some r):∃k,P.c0n k x=some r:=⟨0,h⟩
abbrev s_l03Reach.A:=Int×List Int×List (List RB)×List Int×Unit
abbrev s_l03Reach.B:=Option (List Int×Unit)
abbrev P.b0k (g2:s_l03Reach.A->s_l03Reach.B) (x4:Int×Int×List (List RB)×List Int×Int×List Int×Unit) (g5:Int×Int×List (List RB)×List Int×Int×List Int×Unit->s_l03Reach.B):s_l03Reach.B:=
 (fun(a b e:Int) (c:List (List RB)) (d f:List Int)=>if decide (a<b)then if decide (0<=e)then if decide (e<(d.length:Int))then if decide (0<=(d.getD (0+e.toNat) 0))then if decide ((d.getD (0+e.toNat) 0)<(c.length:Int))then if decide (0<=a)then if decide (a<(List.length (c.getD (Int.toNat (d.getD (0+e.toNat) 0)) []):Int))then(S.b0j (((List.getD (c.getD (Int.toNat (d.getD (0+e.toNat) 0)) []) a.toNat (false,[],[])).1,(List.getD (c.getD (Int.toNat (d.getD (0+e.toNat) 0)) []) a.toNat (false,[],[])).2.1,(List.getD (c.getD (Int.toNat (d.getD (0+e.toNat) 0)) []) a.toNat (false,[],[])).2.2),())).bind fun y6=>if !y6.1 then(S.b4a (f,a,())).bind fun y7=>if !y7.1 then(S.c1m (f,a,())).bind fun y8=>if decide (((d.length+(List.length [a]))*8)<=140737488355328)then g5 (wrap .i64 (a+1),b,c,d++[a],e,y8.1,())else none else g5 (wrap .i64 (a+1),b,c,d,e,f,())else g5 (wrap .i64 (a+1),b,c,d,e,f,())else none else none else none else none else none else none else g2 (wrap .i64 (e+1),d,c,f,())) x4.1 x4.2.1 x4.2.2.2.2.1 x4.2.2.1 x4.2.2.2.1 x4.2.2.2.2.2.1
abbrev P.b0l (k:Nat) (x1:s_l03Reach.A) (g2:s_l03Reach.A->s_l03Reach.B):s_l03Reach.B:=
 if decide (x1.1<(x1.2.1.length:Int))then loopP (P.b0k g2) k (0,(x1.2.2.1.length:Int),x1.2.2.1,x1.2.1,x1.1,x1.2.2.2.1,())else some (x1.2.2.2.1,())
def P.c7p (k:Nat) (x:List (List RB)×Int×Unit):s_l03Reach.B:=
 loopP (P.b0l k) k (0,[x.2.1],x.1,[x.2.1],())
theorem h1f (q:Q3):S.b0j (((rp B10 q).1,(rp B10 q).2.1,(rp B10 q).2.2),())=some (decide (q.2.1=0),()):=by
 unfold S.b0j P.c0n rp;dsimp only;congr 2;rw[Bool.eq_iff_iff,beq_iff_eq,decide_eq_true_iff,<-d1o (B:=B10) (by decide),<-List.length_eq_zero_iff];omega
theorem g0z {M:List (List Q3)} (hM:isM M) {i:Nat} (hi:i<M.length) (pre:List Nat) {sn:List Bool} {td:List Nat} (hb:Bok M.length (sn,td)) (hm:pre.length+td.length+sn.count false<=1000000)
  (g) {K:Nat} (hK:M.length<K):
  loopP (P.b0k g) K ((0:Int),(M.length:Int),mp B10 M,zs (pre++i::td),(pre.length:Int),a5o 0 sn,())=g (((pre.length+1:Nat):Int),zs (pre++i::(b5j (adj M i) M.length (sn,td)).2),mp B10 M,a5o 0 (b5j (adj M i) M.length (sn,td)).1,()):=by
 have hrow:=c6o hM hi;have hn:=hM.1;have key:=a0f (k:=K) (b:=P.b0k g) (n:=M.length) (st:=fun j=>((j:Int),(M.length:Int),mp B10 M,zs (pre++i::((List.range j).foldl (b0r (adj M i)) (sn,td)).2),(pre.length:Int),a5o 0 ((List.range j).foldl (b0r (adj M i)) (sn,td)).1,())) (F:=fun _=>g (((pre.length+1:Nat):Int),zs (pre++i::(b5j (adj M i) M.length (sn,td)).2),mp B10 M,a5o 0 (b5j (adj M i) M.length (sn,td)).1,())) (fun j g' hj hg=>by
  unfold P.b0k;dsimp only at hg ⊢;obtain⟨b1,b2⟩:=b8f (a:=adj M i) hb j (by omega);rw[b4z]at hg;generalize (List.range j).foldl (b0r (adj M i)) (sn,td)=s at b1 b2 hg ⊢;have b3:s.2.length<=td.length+sn.count false:=by
   dsimp only at b2;omega
  have e0:(zs (pre++i::s.2)).length=pre.length+s.2.length+1:=by simp [zs];omega
  have e1:(j:Int)<(M.length:Int):=by omega
  have e2:(0:Int)<=(j:Int):=by omega
  have e3:(zs (pre++i::s.2)).getD (0+Int.toNat (pre.length:Int)) 0=(i:Int):=by
   rw[d1x,Nat.zero_add,Int.toNat_natCast,List.getD_eq_getElem?_getD,List.getElem?_append_right (Nat.le_refl _)];simp
  have e4:(0:Int)<=(pre.length:Int):=by omega
  have e5:(pre.length:Int)<((pre.length+s.2.length+1:Nat):Int):=by omega
  have e6:(0:Int)<=(i:Int):=by omega
  have e7:(i:Int)<((mp B10 M).length:Int):=by rw[a4b];omega
  have e8:(pre.length+s.2.length+1+1)*8<=140737488355328:=by omega
  have e9:(((M.getD i []).map (rp B10)).length:Int)=(M.length:Int):=by rw[List.length_map,hrow.1]
  have pl:=c4g 0 s.1;have bl:s.1.length=M.length:=b1.len;have eh:S.b4a (a5o 0 s.1,(j:Int),())=some (s.1.getD j false,()):=by
   unfold S.b4a;dsimp only;have:=c9z 0 s.1 j;rw[Int.zero_add]at this;rw[if_pos (by omega),this]
  have ep:S.c1m (a5o 0 s.1,(j:Int),())=some (a5o 0 (s.1.set j true),()):=by
   unfold S.c1m;dsimp only;have:=e0a 0 s.1 j (by omega);rw[Int.zero_add]at this;rw[if_pos (by omega),this]
  rw[e0,e3,Int.toNat_natCast,f5g hi,Int.toNat_natCast,e9t B10 (by rw[hrow.1];exact hj),h1f,Option.bind_some];simp only[e1,e2,e4,e5,e6,e7,e8,e9,decide_true,if_true,List.length_cons,List.length_nil,Nat.zero_add];rw[eh,ep,wr (by omega) (by omega)];simp only[Option.bind_some];have ha':(!decide (((M.getD i []).getD j a3f).2.1=0))=adj M i j:=by
   unfold adj;simp
  rw[ha'];unfold b0r at hg;cases ha:adj M i j
  ·rw[ha,if_neg (by simp)]at hg;rw[if_neg (by decide)];exact hg
  ·rw[if_pos rfl];cases hs:s.1.getD j false
   ·rw[ha,hs,if_pos ⟨rfl,rfl⟩]at hg;rw[if_pos (by decide),<-hg];simp [zs]
   ·rw[ha,hs,if_neg (by simp)]at hg;rw[if_neg (by decide)];exact hg) (fun g'=>by
  unfold P.b0k;dsimp only;rw[if_neg (by simp),wr (by omega) (by omega)];rfl) hK
 exact key
theorem g1a {M:List (List Q3)} (hM:isM M) {K:Nat} (hK:M.length<K):∀(f k:Nat) (pre:List Nat) (sn:List Bool) (td:List Nat),Bok M.length (sn,td)->td.length+sn.count false<=f->f<k->pre.length+f<=1000000->loopP (P.b0l K) k ((pre.length:Int),zs (pre++td),mp B10 M,a5o 0 sn,())=some (a5o 0 (bfs (adj M) M.length f sn td),()):=by
 intro f
 induction f with
 |zero=>
  intro k pre sn td hb hm hk hf;cases k with
  |zero=>omega
  |succ k=>
   have:td=[]:=List.eq_nil_of_length_eq_zero (by omega);subst this;rw[a0j];unfold P.b0l;dsimp only;rw[if_neg (by simp [zs])];rfl
 |succ f ih=>
  intro k pre sn td hb hm hk hf;cases k with
  |zero=>omega
  |succ k=>
   rw[a0j];cases td with
   |nil=>
    unfold P.b0l;dsimp only;rw[if_neg (by simp [zs])];rfl
   |cons i r=>
    have hi:i<M.length:=hb.lt i (List.mem_cons_self ..);have hb':Bok M.length (sn,r):=⟨hb.len,fun t ht=>hb.lt t (List.mem_cons_of_mem _ ht)⟩
    have hm':r.length+sn.count false<=f:=by
     rw[List.length_cons]at hm;omega
    unfold P.b0l;dsimp only;rw[if_pos (decide_eq_true (by simp [zs];omega)),a4b,g0z hM hi pre hb' (by omega) _ hK,bfs];obtain⟨c1,c2⟩:=b8f (a:=adj M i) hb' M.length (Nat.le_refl _);have:=ih k (pre++[i]) _ _ c1 (by
     have:(b5j (adj M i) M.length (sn,r)).2.length+(b5j (adj M i) M.length (sn,r)).1.count false=r.length+sn.count false:=c2;exact Nat.le_trans (Nat.le_of_eq this) hm') (by omega) (by simp;omega)
    rw[List.append_assoc,List.length_append]at this;exact this
open Classical in
def S.b1s (x:((List (List RB))×(Int×Unit))):(Option ((List Int)×Unit)):=if(∃M,isM M/\x.1=mp B10 M)/\0<=x.2.1/\x.2.1<(x.1.length:Int)then some (a5o 0 (b3j (adj (mv B10 x.1)) x.1.length x.2.1.toNat),())else none
theorem S.e2b (x r) (h:S.b1s x=some r):∃k,P.c7p k x=some r:=by
 obtain⟨m,s,u⟩:=x;unfold S.b1s at h;dsimp only at h;split at h
 case isFalse=>cases h
 rename_i hc;obtain⟨⟨M,hM,rfl⟩,h0,h1⟩:=hc;cases h;obtain⟨s,rfl⟩:=Int.eq_ofNat_of_zero_le h0;rw[b3r (by decide),a4b]at*;have hs:s<M.length:=by omega
 have hn:=hM.1;refine⟨M.length+1,?_⟩;unfold P.c7p;dsimp only;obtain⟨c1,c2⟩:=c9y hs;have:=g1a hM (K:=M.length+1) (by omega) M.length (M.length+1) [] _ [s] c1 (by omega) (by omega) (by simp;omega);rw[f5f hs]at this;exact this
abbrev s_l03Classes.A:=Int×Int×List (List RB)×List Int×Int×List Int×Int×Bool×List Int×Int×Int×Unit
abbrev s_l03Classes.B:=Int×Int×List Int×List (List RB)×Int×List Int×Unit
abbrev s_l03Classes.C:=Option ((List Int×List Int)×Unit)
abbrev P.a6t (g5:s_l03Classes.B->s_l03Classes.C) (x8:s_l03Classes.A) (g9:s_l03Classes.A->s_l03Classes.C):s_l03Classes.C:=
 (fun(a b e h l m:Int) (c:List (List RB)) (d f j:List Int) (i:Bool)=>if decide (a<b)then if decide (0<=a)then if decide (a<(d.length:Int))then(S.b1s (c,d.getD a.toNat 0,())).bind fun y10=>(S.b4a (y10.1,e,())).bind fun y11=>if y11.1 then if decide (0<=a)then if decide (a<(d.length:Int))then if decide (0<=(d.getD a.toNat 0))then if decide ((d.getD a.toNat 0)<(f.length:Int))then g9 (wrap .i64 (a+1),b,c,d,e,f.set (0+(Int.toNat (d.getD a.toNat 0))) h,h,i,j,l,m,())else none else none else none else none else g9 (wrap .i64 (a+1),b,c,d,e,f,h,false,j,l,m,())else none else none else if i then if decide (((j.length+(List.length [h]))*8)<=140737488355328)then g5 (wrap .i64 (l+1),m,f,c,wrap .i64 (h+1),j++[h],())else none else g5 (wrap .i64 (l+1),m,f,c,wrap .i64 (h+1),j,())) x8.1 x8.2.1 x8.2.2.2.2.1 x8.2.2.2.2.2.2.1 x8.2.2.2.2.2.2.2.2.2.1 x8.2.2.2.2.2.2.2.2.2.2.1 x8.2.2.1 x8.2.2.2.1 x8.2.2.2.2.2.1 x8.2.2.2.2.2.2.2.2.1 x8.2.2.2.2.2.2.2.1
abbrev P.b0m (k:Nat) (x4:s_l03Classes.B) (g5:s_l03Classes.B->s_l03Classes.C):s_l03Classes.C:=
 (fun(a b e:Int) (c f:List Int) (d:List (List RB))=>if decide (a<b)then if decide (0<=a)then if decide (a<(c.length:Int))then if decide ((c.getD (0+a.toNat) 0)>=0)then g5 (wrap .i64 (a+1),b,c,d,e,f,())else(S.b1s (d,a,())).bind fun y6=>loopP (P.a6t g5) k (0,(y6.1.length:Int),d,y6.1,a,c,e,true,f,a,b,())else none else none else some ((c,f),())) x4.1 x4.2.1 x4.2.2.2.2.1 x4.2.2.1 x4.2.2.2.2.2.1 x4.2.2.2.1
abbrev P.b0n (k:Nat) (x1:Int×Int×List Int×List (List RB)×Unit) (g2:Int×Int×List Int×List (List RB)×Unit->s_l03Classes.C):s_l03Classes.C:=
 if decide (x1.1<x1.2.1)then if decide (0<=x1.1)then if decide (x1.1<(x1.2.2.1.length:Int))then g2 (wrap .i64 (x1.1+1),x1.2.1,x1.2.2.1.set (0+x1.1.toNat) (-1:Int),x1.2.2.2.1,())else none else none else loopP (P.b0m k) k (0,(x1.2.2.1.length:Int),x1.2.2.1,x1.2.2.2.1,0,[],())
def P.c0o (k:Nat) (x:List (List RB)×Unit):s_l03Classes.C:=
 if decide (0<=(x.1.length:Int))then if decide ((x.1.length:Int)<=(x.1.length:Int))then if decide (((x.1.length:Int)*8)<=281474976710656)then loopP (P.b0n k) k (0,(List.length (List.replicate (Int.toNat (x.1.length:Int)) (0:Int)):Int),List.replicate (Int.toNat (x.1.length:Int)) 0,x.1,())else none else none else none
theorem g1b {M:List (List Q3)} (hM:isM M) {i:Nat} (hi:i<M.length):S.b1s (mp B10 M,(i:Int),())=some (a5o 0 (b3j (adj M) M.length i),()):=by
 unfold S.b1s;dsimp only;rw[if_pos ⟨⟨M,hM,rfl⟩,by omega,by rw[a4b];omega⟩,b3r (by decide),a4b,Int.toNat_natCast]
theorem h5j {M:List (List Q3)} {i j:Nat} (hi:i<M.length) (hn:M.length<=12):S.b4a (a5o 0 (b3j (adj M) M.length i),(j:Int),())=some (rcB M i j,()):=by
 unfold S.b4a rcB;dsimp only;have h1:=c4g 0 (b3j (adj M) M.length i);rw[c6n hi]at h1;have h2:=c9z 0 (b3j (adj M) M.length i) j;rw[Int.zero_add]at h2;rw[if_pos (by omega),h2]
theorem g5z {M:List (List Q3)} {i:Nat} (hi:i<M.length):a5o 0 (b3j (adj M) M.length i)=zs (fl (rcB M i) M.length):=by
 have:=h0l 0 (b3j (adj M) M.length i);rw[c6n hi]at this;exact this
def upC (n:Nat) (f:Nat->Int) (c d:Nat->Bool) (k:Int) (a:Nat):List Int:=tab n fun v=>if(c v&&d v)=true/\ix c v<a then k else f v
theorem g1c {M:List (List Q3)} (hM:isM M) {i:Nat} (hi:i<M.length) (f:Nat->Int) (cl:List Bool) (hcl:cl.length<=12)
  (g) {K:Nat} (hK:M.length<K):
  loopP (P.a6t g) K ((0:Int),((a5o 0 (b3j (adj M) M.length i)).length:Int),mp B10 M,a5o 0 (b3j (adj M) M.length i),(i:Int),tab M.length f,(cl.length:Int),true,a5o 0 cl,(i:Int),(M.length:Int),())=g (((i+1:Nat):Int),(M.length:Int),tab M.length (fun j=>if(rcB M i j&&rcB M j i)=true then(cl.length:Int)else f j),mp B10 M,((cl.length+1:Nat):Int),a5o 0 (cl++[(List.range M.length).all fun j=> !rcB M i j||rcB M j i]),()):=by
 have hn:=hM.1;have hL:=g5z (M:=M) hi;have hl:(fl (rcB M i) M.length).length<=M.length:=by
  have:=List.length_filter_le (rcB M i) (List.range M.length);rw[List.length_range]at this;exact this
 rw[hL,c4i];have key:=a0f (k:=K) (b:=P.a6t g) (n:=(fl (rcB M i) M.length).length) (st:=fun a=>((a:Int),((fl (rcB M i) M.length).length:Int),mp B10 M,zs (fl (rcB M i) M.length),(i:Int),upC M.length f (rcB M i) (fun j=>rcB M j i) (cl.length:Int) a,(cl.length:Int),(List.range a).all (fun b=>rcB M ((fl (rcB M i) M.length).getD b 0) i),a5o 0 cl,(i:Int),(M.length:Int),())) (F:=fun _=>g (((i+1:Nat):Int),(M.length:Int),tab M.length (fun j=>if(rcB M i j&&rcB M j i)=true then(cl.length:Int)else f j),mp B10 M,((cl.length+1:Nat):Int),a5o 0 (cl++[(List.range M.length).all fun j=> !rcB M i j||rcB M j i]),())) (fun a g' ha hg=>by
  unfold P.a6t;dsimp only at hg ⊢;obtain⟨f1,f2⟩:=c4k ha;have f3:=f5h ha;have e1:(a:Int)<((fl (rcB M i) M.length).length:Int):=by omega
  have e2:(0:Int)<=(a:Int):=by omega
  have e3:(zs (fl (rcB M i) M.length)).getD a 0=(((fl (rcB M i) M.length).getD a 0:Nat):Int):=d1x _ _;rw[c4i,Int.toNat_natCast,e3];generalize hv:(fl (rcB M i) M.length).getD a 0=v at*;rw[g1b hM f1,Option.bind_some];dsimp only;rw[h5j f1 hn,Option.bind_some];have e4:(0:Int)<=(v:Int):=by omega
  have e5:(v:Int)<(M.length:Int):=by omega
  have e6:(upC M.length f (rcB M i) (fun j=>rcB M j i) (cl.length:Int) a).length=M.length:=a1r _ _;simp only[e1,e2,e4,e5,e6,decide_true,if_true,Int.toNat_natCast,Nat.zero_add];rw[wr (by omega) (by omega)];rw[f3e,hv]at hg;cases hr:rcB M v i
  ·have:upC M.length f (rcB M i) (fun j=>rcB M j i) (cl.length:Int) (a+1)=upC M.length f (rcB M i) (fun j=>rcB M j i) (cl.length:Int) a:=by
    unfold upC;apply a1z;intro w hw
    by_cases q:(rcB M i w&&rcB M w i)=true
    ·rw[Bool.and_eq_true]at q;have hne:ix (rcB M i) w≠a:=fun e=>by
      have:=(c4j hw q.1).2;rw[e,hv]at this;rw[<-this,hr]at q;cases q.2
     by_cases hlt:ix (rcB M i) w<a
     ·rw[if_pos ⟨by rw[Bool.and_eq_true];exact q,by omega⟩,if_pos ⟨by rw[Bool.and_eq_true];exact q,hlt⟩]
     ·rw[if_neg (fun r=>by omega),if_neg (fun r=>hlt r.2)]
    ·rw[if_neg (fun r=>q r.1),if_neg (fun r=>q r.1)]
   rw[this,hr,Bool.and_false]at hg;rw[if_neg (by decide)];exact hg
  ·have:(upC M.length f (rcB M i) (fun j=>rcB M j i) (cl.length:Int) a).set v (cl.length:Int)=upC M.length f (rcB M i) (fun j=>rcB M j i) (cl.length:Int) (a+1):=by
    unfold upC;rw[c6p];apply a1z;intro w hw
    by_cases e:w=v
    ·subst e;rw[if_pos rfl,if_pos ⟨by dsimp only;rw[f2,hr];rfl,by omega⟩]
    ·rw[if_neg e]
     by_cases q:(rcB M i w&&rcB M w i)=true
     ·have hne:ix (rcB M i) w≠a:=fun e'=>by
       rw[Bool.and_eq_true]at q;have:=(c4j hw q.1).2;rw[e',hv]at this;exact e this.symm
      by_cases hlt:ix (rcB M i) w<a
      ·rw[if_pos ⟨q,hlt⟩,if_pos ⟨q,by omega⟩]
      ·rw[if_neg (fun r=>hlt r.2),if_neg (fun r=>by omega)]
     ·rw[if_neg (fun r=>q r.1),if_neg (fun r=>q r.1)]
   rw[hr,Bool.and_true]at hg;rw[if_pos rfl,this];exact hg) (fun g'=>by
  unfold P.a6t;dsimp only;have hpl:=c4g 0 cl;have e1:((a5o 0 cl).length+1)*8<=140737488355328:=by omega
  have e2:upC M.length f (rcB M i) (fun j=>rcB M j i) (cl.length:Int) (fl (rcB M i) M.length).length=tab M.length fun j=>if(rcB M i j&&rcB M j i)=true then(cl.length:Int)else f j:=by
   unfold upC;apply a1z;intro w hw
   by_cases q:(rcB M i w&&rcB M w i)=true
   ·rw[if_pos ⟨q,(c4j hw (by rw[Bool.and_eq_true]at q;exact q.1)).1⟩,if_pos q]
   ·rw[if_neg (fun r=>q r.1),if_neg q]
  have e3:(List.range (fl (rcB M i) M.length).length).all (fun b=>rcB M ((fl (rcB M i) M.length).getD b 0) i)=(List.range M.length).all fun j=> !rcB M i j||rcB M j i:=by
   rw[Bool.eq_iff_iff,List.all_eq_true,List.all_eq_true];constructor
   ·intro h j hj;have hj':=List.mem_range.1 hj;cases hc:rcB M i j
    ·rfl
    ·obtain⟨q1,q2⟩:=c4j hj' hc;have:=h _ (List.mem_range.2 q1);rw[q2]at this;rw[this];rfl
   ·intro h b hb;obtain⟨q1,q2⟩:=c4k (List.mem_range.1 hb);have:=h _ (List.mem_range.2 q1);rw[q2]at this;simpa using this
  rw[if_neg (by simp),e2,e3,c4h,Int.zero_add];cases(List.range M.length).all fun j=> !rcB M i j||rcB M j i
  ·rw[if_neg (by decide),if_neg (by decide),List.append_nil,wr (by omega) (by omega),wr (by omega) (by omega)];rfl
  ·simp only[if_true,List.length_cons,List.length_nil,Nat.zero_add,e1,decide_true];rw[wr (by omega) (by omega),wr (by omega) (by omega)];rfl) (show(fl (rcB M i) M.length).length<K by omega)
 refine Eq.trans ?_ key;have:upC M.length f (rcB M i) (fun j=>rcB M j i) (cl.length:Int) 0=tab M.length f:=by
  unfold upC;apply a1z;intro w hw;rw[if_neg (fun r=>by omega)]
 rw[this];rfl
open Classical in
def S.a4n (x:((List (List RB))×Unit)):(Option (((List Int)×(List Int))×Unit)):=if ∃M,isM M/\x.1=mp B10 M then some (((a9u (mv B10 x.1)).1,a5o 0 (a9u (mv B10 x.1)).2),())else none
theorem S.d4i (x r) (h:S.a4n x=some r):∃k,P.c0o k x=some r:=by
 obtain⟨m,u⟩:=x;unfold S.a4n at h;dsimp only at h;split at h
 case isFalse=>cases h
 rename_i hc;obtain⟨M,hM,rfl⟩:=hc;cases h;rw[b3r (by decide)];have hn:=hM.1;refine⟨M.length+1,?_⟩;unfold P.c0o;dsimp only;have a1:(0:Int)<=(M.length:Int):=by omega
 have a2:(M.length:Int)*8<=281474976710656:=by omega
 rw[a4b];simp only[a1,a2,Int.le_refl,decide_true,if_true,Int.toNat_natCast,List.length_replicate];have key:=a0f (k:=M.length+1) (b:=P.b0m (M.length+1)) (n:=M.length) (st:=fun i=>((i:Int),(M.length:Int),((List.range i).foldl (a6o (rcB M) M.length) (List.replicate M.length (-1),[])).1,mp B10 M,((((List.range i).foldl (a6o (rcB M) M.length) (List.replicate M.length (-1),[])).2.length:Nat):Int),a5o 0 ((List.range i).foldl (a6o (rcB M) M.length) (List.replicate M.length (-1),[])).2,())) (F:=fun _=>some (((a9u M).1,a5o 0 (a9u M).2),())) (fun i g hi hg=>by
  unfold P.b0m;dsimp only at hg ⊢;obtain⟨l1,l2⟩:=b8j (rcB M) M.length i;rw[b4z]at hg;generalize (List.range i).foldl (a6o (rcB M) M.length) (List.replicate M.length (-1),[])=s at l1 l2 hg ⊢;have e1:(i:Int)<(M.length:Int):=by omega
  have e2:(0:Int)<=(i:Int):=by omega
  have e3:(i:Int)<(s.1.length:Int):=by omega
  have e4:s.1.getD i 0=s.1.getD i (-1):=by
   rw[List.getD_eq_getElem?_getD,List.getD_eq_getElem?_getD,List.getElem?_eq_getElem (by omega)];rfl
  simp only[e1,e2,e3,decide_true,if_true,Int.toNat_natCast,Nat.zero_add,e4];unfold a6o at hg
  by_cases h0:0<=s.1.getD i (-1)
  ·rw[if_pos h0]at hg;rw[if_pos (decide_eq_true h0),wr (by omega) (by omega)];exact hg
  ·rw[if_neg h0]at hg;rw[if_neg (by simpa using h0),g1b hM hi,Option.bind_some];have hs:s.1=tab M.length fun v=>s.1.getD v (-1):=by
    conv=>lhs;rw[f9t s.1 (-1),l1]
   rw[hs];refine Eq.trans (g1c hM hi (fun v=>s.1.getD v (-1)) s.2 (by omega) g (by omega)) ?_;rw[List.length_append]at hg;exact hg) (fun g=>by
  unfold P.b0m;dsimp only;rw[if_neg (by simp)];rfl) (by omega)
 have pre:=a0f (k:=M.length+1) (b:=P.b0n (M.length+1)) (n:=M.length) (st:=fun i=>((i:Int),(M.length:Int),List.replicate i (-1)++List.replicate (M.length - i) 0,mp B10 M,())) (F:=fun _=>some (((a9u M).1,a5o 0 (a9u M).2),())) (fun i g hi hg=>by
  unfold P.b0n;dsimp only at hg ⊢;have hlen:(List.replicate i (-1:Int)++List.replicate (M.length - i) 0).length=M.length:=by simp;omega
  have e1:(i:Int)<(M.length:Int):=by omega
  have e2:(0:Int)<=(i:Int):=by omega
  simp only[hlen,e1,e2,decide_true,if_true];rw[wr (by omega) (by omega),<-hg];have e3:M.length - i=(M.length - (i+1))+1:=by omega
  have e4:(0+(i:Int).toNat)=(List.replicate i (-1:Int)).length:=by rw[List.length_replicate];omega
  rw[e3,e4,c0w];congr 2;simp [List.replicate_succ']) (fun g=>by
  unfold P.b0n;dsimp only;rw[if_neg (by simp),Nat.sub_self,List.replicate_zero,List.append_nil,List.length_replicate];exact key) (by omega)
 exact pre
def P.b8v (k:Nat) (x:RB×Unit):Option (RB×Unit):=
 if !x.1.1 then some ((decide ((x.1.2.1.length:Int)>0),x.1.2.1,x.1.2.2),())else some ((false,x.1.2.1,x.1.2.2),())
def S.a7h (x:(RB×Unit)):(Option (RB×Unit)):=if rok B10 40000000 x.1=true then some (rp B10 (d4u (rv B10 x.1)),())else none
theorem S.c9o (x r) (h:S.a7h x=some r):∃k,P.b8v k x=some r:=by
 obtain⟨x,u⟩:=x;unfold S.a7h at h;dsimp only at h;split at h
 case isFalse=>cases h
 rename_i hc;cases h;refine⟨0,?_⟩;obtain⟨n,p,q,rfl,_,_⟩:=b2p hc;rw[b9v a0d];unfold P.b8v d4u rp;dsimp only;rw[f5b a0d];cases n
 ·rfl
 ·rfl
def P.d8d (k:Nat) (x:RB×RB×Unit):Option (RB×Unit):=
 (S.a7h ((x.2.1.1,x.2.1.2.1,x.2.1.2.2),())).bind fun y0=>(S.b0f ((x.1.1,x.1.2.1,x.1.2.2),(y0.1.1,y0.1.2.1,y0.1.2.2),())).bind fun y1=>some ((y1.1.1,y1.1.2.1,y1.1.2.2),())
def S.a7i (x:(RB×(RB×Unit))):(Option (RB×Unit)):=if c4b B10 40000000 x.1=true/\c4b B10 40000000 x.2.1=true then some (rp B10 (b6j (rv B10 x.1) (d4u (rv B10 x.2.1))),())else none
theorem S.e2c (x r) (h:S.a7i x=some r):∃k,P.d8d k x=some r:=by
 obtain⟨x,y,u⟩:=x;unfold S.a7i at h;dsimp only at h;split at h
 case isFalse=>cases h
 rename_i hc;obtain⟨hx,hy⟩:=hc;cases h;have hy':=a8f.1 hy;refine⟨0,?_⟩;have e1:S.a7h (y,())=some (rp B10 (d4u (rv B10 y)),()):=if_pos hy'.1;have hz:c4b B10 40000000 (rp B10 (d4u (rv B10 y)))=true:=by
  rw[a8f,a4t a0d];obtain⟨n2,p2,q2,rfl,y1,y2⟩:=b2p hy'.1;rw[b9v a0d]at hy' ⊢;exact⟨b9s.2 ⟨a0m a0d _,a0m a0d _,y1,y2⟩,b3q _ hy'.2⟩
 have e2:S.b0f (x,(rp B10 (d4u (rv B10 y)),()))=some (rp B10 (b6j (rv B10 x) (d4u (rv B10 y))),()):=by
  unfold S.b0f;dsimp only;rw[if_pos ⟨hx,hz⟩,a4t a0d]
 show Option.bind (S.a7h (y,())) (fun y0=>Option.bind (S.b0f (x,(y0.1,()))) (fun y1=>some (y1.1,())))=_;rw[e1,Option.bind_some,e2,Option.bind_some]
theorem g8f {x y:Q3} {m n:Nat} (hx:low x) (bx:below m x) (hy:low y) (bY:below n y) (hm:m<=350000000) (hn:n<=350000000):S.a7i (rp B10 x,(rp B10 y,()))=some (rp B10 (b6j x (d4u y)),()):=by
 unfold S.a7i;dsimp only;rw[if_pos ⟨a4m (by decide) hx bx (by omega),a4m (by decide) hy bY (by omega)⟩,a4t a0d,a4t a0d]
def P.c5e (k:Nat) (x:List (List RB×Nat)×Int×Int×Unit):Option (Unit×List (List RB×Nat)×Unit):=
 if decide (0<=x.2.1)then if decide (x.2.1<(List.length (hd0 x.1):Int))then if decide (0<=x.2.2.1)then if decide (x.2.2.1<(List.length (hd0 x.1):Int))then if decide (0<=x.2.1)then if decide (x.2.1<(List.length (hd0 x.1):Int))then if decide (0<=x.2.2.1)then if decide (x.2.2.1<(List.length (List.set (hd0 x.1) (0+x.2.1.toNat) ((List.getD (hd0 x.1) (0+x.2.2.1.toNat) (0,0)).1,(List.getD (hd0 x.1) (0+x.2.2.1.toNat) (0,0)).2)):Int))then if dup (List.map (fun(y0:Nat×Nat)=>y0.1) (List.set (List.set (hd0 x.1) (0+x.2.1.toNat) ((List.getD (hd0 x.1) (0+x.2.2.1.toNat) (0,0)).1,(List.getD (hd0 x.1) (0+x.2.2.1.toNat) (0,0)).2)) (0+x.2.2.1.toNat) ((List.getD (hd0 x.1) (0+x.2.1.toNat) (0,0)).1,(List.getD (hd0 x.1) (0+x.2.1.toNat) (0,0)).2)))then none else some ((),nrm (List.set (List.set (hd0 x.1) (0+x.2.1.toNat) ((List.getD (hd0 x.1) (0+x.2.2.1.toNat) (0,0)).1,(List.getD (hd0 x.1) (0+x.2.2.1.toNat) (0,0)).2)) (0+x.2.2.1.toNat) ((List.getD (hd0 x.1) (0+x.2.1.toNat) (0,0)).1,(List.getD (hd0 x.1) (0+x.2.1.toNat) (0,0)).2)) (in0 x.1),())else none else none else none else none else none else none else none else none
def S.b7g (x:((List ((List RB)×Nat))×(Int×(Int×Unit)))):(Option (Unit×((List ((List RB)×Nat))×Unit))):=P.c5e 0 x
theorem S.e7s (x r) (h:S.b7g x=some r):∃k,P.c5e k x=some r:=⟨0,h⟩
abbrev s_l03Solve.A:=Option ((List RB×Bool)×List (List RB×Nat)×Unit)
abbrev s_l03Solve.B:=Int×Int×Int×List (List RB×Nat)×Unit
abbrev s_l03Solve.C:=Int×Int×List (List RB×Nat)×Unit
abbrev P.a7z (g16:s_l03Solve.B->s_l03Solve.A) (x23:Int×Int×List (List RB×Nat)×Int×RB×Int×Unit) (g24:Int×Int×List (List RB×Nat)×Int×RB×Int×Unit->s_l03Solve.A):s_l03Solve.A:=
 (fun(a b d f:Int) (c:List (List RB×Nat)) (e:RB)=>if decide (a<=b)then if decide (0<=d)then if decide (d<(List.length (hd0 c):Int))then if decide (0<=d)then if decide (d<(List.length (hd0 c):Int))then if decide (0<=a)then if decide (a<(((List.getD (hd0 c) (0+d.toNat) (0,0)).2:Nat):Int))then if decide (0<=f)then if decide (f<(List.length (hd0 c):Int))then if decide (0<=a)then if decide (a<(((List.getD (hd0 c) (0+f.toNat) (0,0)).2:Nat):Int))then(S.a7g ((e.1,e.2.1,e.2.2),((List.getD (List.getD (in0 c) (List.getD (hd0 c) (0+f.toNat) (0,0)).1 []) (0+a.toNat) (false,[],[])).1,(List.getD (List.getD (in0 c) (List.getD (hd0 c) (0+f.toNat) (0,0)).1 []) (0+a.toNat) (false,[],[])).2.1,(List.getD (List.getD (in0 c) (List.getD (hd0 c) (0+f.toNat) (0,0)).1 []) (0+a.toNat) (false,[],[])).2.2),())).bind fun y25=>(S.a7i (((List.getD (List.getD (in0 c) (List.getD (hd0 c) (0+d.toNat) (0,0)).1 []) (0+a.toNat) (false,[],[])).1,(List.getD (List.getD (in0 c) (List.getD (hd0 c) (0+d.toNat) (0,0)).1 []) (0+a.toNat) (false,[],[])).2.1,(List.getD (List.getD (in0 c) (List.getD (hd0 c) (0+d.toNat) (0,0)).1 []) (0+a.toNat) (false,[],[])).2.2),(y25.1.1,y25.1.2.1,y25.1.2.2),())).bind fun y26=>if decide (0<=a)then if decide (a<(((List.getD (hd0 c) (0+d.toNat) (0,0)).2:Nat):Int))then if dup (List.map (fun(y27:Nat×Nat)=>y27.1) (hd0 c))then none else g24 (wrap .i64 (a+1),b,nrm (hd0 c) (List.set (in0 c) (List.getD (hd0 c) (0+d.toNat) (0,0)).1 (List.set (List.getD (in0 c) (List.getD (hd0 c) (0+d.toNat) (0,0)).1 []) (0+a.toNat) (y26.1.1,y26.1.2.1,y26.1.2.2))),d,(e.1,e.2.1,e.2.2),f,())else none else none else none else none else none else none else none else none else none else none else none else none else if dup (List.map (fun(y28:Nat×Nat)=>y28.1) (hd0 c))then none else g16 (wrap .i64 (d+1),b,f,nrm (hd0 c) (in0 c),())) x23.1 x23.2.1 x23.2.2.2.1 x23.2.2.2.2.2.1 x23.2.2.1 x23.2.2.2.2.1
abbrev P.a4r (k:Nat) (g3:s_l03Solve.C->s_l03Solve.A) (x15:s_l03Solve.B) (g16:s_l03Solve.B->s_l03Solve.A):s_l03Solve.A:=
 (fun(a b c:Int) (d:List (List RB×Nat))=>if decide (a<b)then if a==c then if dup (List.map (fun(y17:Nat×Nat)=>y17.1) (hd0 d))then none else g16 (wrap .i64 (a+1),b,c,nrm (hd0 d) (in0 d),())else if decide (0<=a)then if decide (a<(List.length (hd0 d):Int))then if decide (0<=c)then if decide (c<(((List.getD (hd0 d) (0+a.toNat) (0,0)).2:Nat):Int))then(S.b0j (((List.getD (List.getD (in0 d) (List.getD (hd0 d) (0+a.toNat) (0,0)).1 []) (0+c.toNat) (false,[],[])).1,(List.getD (List.getD (in0 d) (List.getD (hd0 d) (0+a.toNat) (0,0)).1 []) (0+c.toNat) (false,[],[])).2.1,(List.getD (List.getD (in0 d) (List.getD (hd0 d) (0+a.toNat) (0,0)).1 []) (0+c.toNat) (false,[],[])).2.2),())).bind fun y18=>if y18.1 then if dup (List.map (fun(y19:Nat×Nat)=>y19.1) (hd0 d))then none else g16 (wrap .i64 (a+1),b,c,nrm (hd0 d) (in0 d),())else if decide (0<=a)then if decide (a<(List.length (hd0 d):Int))then if decide (0<=c)then if decide (c<(((List.getD (hd0 d) (0+a.toNat) (0,0)).2:Nat):Int))then if decide (0<=c)then if decide (c<(List.length (hd0 d):Int))then if decide (0<=c)then if decide (c<(((List.getD (hd0 d) (0+c.toNat) (0,0)).2:Nat):Int))then(S.a7y (((List.getD (List.getD (in0 d) (List.getD (hd0 d) (0+a.toNat) (0,0)).1 []) (0+c.toNat) (false,[],[])).1,(List.getD (List.getD (in0 d) (List.getD (hd0 d) (0+a.toNat) (0,0)).1 []) (0+c.toNat) (false,[],[])).2.1,(List.getD (List.getD (in0 d) (List.getD (hd0 d) (0+a.toNat) (0,0)).1 []) (0+c.toNat) (false,[],[])).2.2),((List.getD (List.getD (in0 d) (List.getD (hd0 d) (0+c.toNat) (0,0)).1 []) (0+c.toNat) (false,[],[])).1,(List.getD (List.getD (in0 d) (List.getD (hd0 d) (0+c.toNat) (0,0)).1 []) (0+c.toNat) (false,[],[])).2.1,(List.getD (List.getD (in0 d) (List.getD (hd0 d) (0+c.toNat) (0,0)).1 []) (0+c.toNat) (false,[],[])).2.2),())).bind fun y20=>if dup (List.map (fun(y21:Nat×Nat)=>y21.1) (hd0 d))then none else loopP (P.a7z g16) k (c,b,nrm (hd0 d) (in0 d),a,(y20.1.1,y20.1.2.1,y20.1.2.2),c,())else none else none else none else none else none else none else none else none else none else none else none else none else if dup (List.map (fun(y29:Nat×Nat)=>y29.1) (hd0 d))then none else g3 (wrap .i64 (c+1),b,nrm (hd0 d) (in0 d),())) x15.1 x15.2.1 x15.2.2.1 x15.2.2.2.1
abbrev P.b4b (k:Nat) (g3:s_l03Solve.C->s_l03Solve.A) (x6:Int×Int×List (List RB×Nat)×Int×Unit) (g7:Int×Int×List (List RB×Nat)×Int×Unit->s_l03Solve.A):s_l03Solve.A:=
 (fun(a b d:Int) (c:List (List RB×Nat))=>if decide (a<b)then if decide (0<=a)then if decide (a<(List.length (hd0 c):Int))then if decide (0<=d)then if decide (d<(((List.getD (hd0 c) (0+a.toNat) (0,0)).2:Nat):Int))then(S.b0j (((List.getD (List.getD (in0 c) (List.getD (hd0 c) (0+a.toNat) (0,0)).1 []) (0+d.toNat) (false,[],[])).1,(List.getD (List.getD (in0 c) (List.getD (hd0 c) (0+a.toNat) (0,0)).1 []) (0+d.toNat) (false,[],[])).2.1,(List.getD (List.getD (in0 c) (List.getD (hd0 c) (0+a.toNat) (0,0)).1 []) (0+d.toNat) (false,[],[])).2.2),())).bind fun y8=>if y8.1 then if dup (List.map (fun(y9:Nat×Nat)=>y9.1) (hd0 c))then none else g7 (wrap .i64 (a+1),b,nrm (hd0 c) (in0 c),d,())else if a==b then if dup (List.map (fun(y10:Nat×Nat)=>y10.1) (hd0 c))then none else some (([],false),nrm (hd0 c) (in0 c),())else if dup (List.map (fun(y11:Nat×Nat)=>y11.1) (hd0 c))then none else(S.b7g (nrm (hd0 c) (in0 c),d,a,())).bind fun y12=>if dup (List.map (fun(y13:Nat×Nat)=>y13.1) (hd0 y12.2.1))then none else loopP (P.a4r k g3) k (0,b,d,nrm (hd0 y12.2.1) (in0 y12.2.1),())else none else none else none else none else if a==b then if dup (List.map (fun(y30:Nat×Nat)=>y30.1) (hd0 c))then none else some (([],false),nrm (hd0 c) (in0 c),())else if dup (List.map (fun(y31:Nat×Nat)=>y31.1) (hd0 c))then none else(S.b7g (nrm (hd0 c) (in0 c),d,a,())).bind fun y32=>if dup (List.map (fun(y33:Nat×Nat)=>y33.1) (hd0 y32.2.1))then none else loopP (P.a4r k g3) k (0,b,d,nrm (hd0 y32.2.1) (in0 y32.2.1),())) x6.1 x6.2.1 x6.2.2.2.1 x6.2.2.1
abbrev P.b2f (x52:Int×Int×List RB×List (List RB×Nat)×Unit) (g53:Int×Int×List RB×List (List RB×Nat)×Unit->s_l03Solve.A):s_l03Solve.A:=
 (fun(a b:Int) (c:List RB) (d:List (List RB×Nat))=>if decide (a<b)then if decide (0<=a)then if decide (a<(List.length (hd0 d):Int))then if decide (0<=b)then if decide (b<(((List.getD (hd0 d) (0+a.toNat) (0,0)).2:Nat):Int))then if decide (0<=a)then if decide (a<(List.length (hd0 d):Int))then if decide (0<=a)then if decide (a<(((List.getD (hd0 d) (0+a.toNat) (0,0)).2:Nat):Int))then(S.a7y (((List.getD (List.getD (in0 d) (List.getD (hd0 d) (0+a.toNat) (0,0)).1 []) (0+b.toNat) (false,[],[])).1,(List.getD (List.getD (in0 d) (List.getD (hd0 d) (0+a.toNat) (0,0)).1 []) (0+b.toNat) (false,[],[])).2.1,(List.getD (List.getD (in0 d) (List.getD (hd0 d) (0+a.toNat) (0,0)).1 []) (0+b.toNat) (false,[],[])).2.2),((List.getD (List.getD (in0 d) (List.getD (hd0 d) (0+a.toNat) (0,0)).1 []) (0+a.toNat) (false,[],[])).1,(List.getD (List.getD (in0 d) (List.getD (hd0 d) (0+a.toNat) (0,0)).1 []) (0+a.toNat) (false,[],[])).2.1,(List.getD (List.getD (in0 d) (List.getD (hd0 d) (0+a.toNat) (0,0)).1 []) (0+a.toNat) (false,[],[])).2.2),())).bind fun y54=>if decide (((c.length+(List.length [(y54.1.1,y54.1.2.1,y54.1.2.2)]))*56)<=140737488355328)then if dup (List.map (fun(y55:Nat×Nat)=>y55.1) (hd0 d))then none else g53 (wrap .i64 (a+1),b,c++[(y54.1.1,y54.1.2.1,y54.1.2.2)],nrm (hd0 d) (in0 d),())else none else none else none else none else none else none else none else none else none else if dup (List.map (fun(y56:Nat×Nat)=>y56.1) (hd0 d))then none else some ((c,true),nrm (hd0 d) (in0 d),())) x52.1 x52.2.1 x52.2.2.1 x52.2.2.2.1
abbrev P.b4c (k:Nat) (x2:s_l03Solve.C) (g3:s_l03Solve.C->s_l03Solve.A):s_l03Solve.A:=
 if decide (x2.1<x2.2.1)then if dup (List.map (fun(y4:Nat×Nat)=>y4.1) (hd0 x2.2.2.1))then none else loopP (P.b4b k g3) k (x2.1,x2.2.1,nrm (hd0 x2.2.2.1) (in0 x2.2.2.1),x2.1,())else if dup (List.map (fun(y50:Nat×Nat)=>y50.1) (hd0 x2.2.2.1))then none else loopP P.b2f k (0,x2.2.1,[],nrm (hd0 x2.2.2.1) (in0 x2.2.2.1),())
def P.c7q (k:Nat) (x:List (List RB×Nat)×Unit):s_l03Solve.A:=
 if dup (List.map (fun(y0:Nat×Nat)=>y0.1) (hd0 x.1))then none else loopP (P.b4c k) k (0,(List.length (hd0 x.1):Int),nrm (hd0 x.1) (in0 x.1),())
theorem h3w {a b:Q3} (ha:okq a) (hb:okq b):S.a7g (((rp B10 a).1,(rp B10 a).2.1,(rp B10 a).2.2),((rp B10 b).1,(rp B10 b).2.1,(rp B10 b).2.2),())=some (rp B10 (b8c a b),()):=g8e ha.1 ha.2 hb.1 hb.2 (Nat.le_refl _) (Nat.le_refl _)
theorem h3x {a b:Q3} (ha:okq a) (hb:okq b):S.a7i (((rp B10 a).1,(rp B10 a).2.1,(rp B10 a).2.2),((rp B10 b).1,(rp B10 b).2.1,(rp B10 b).2.2),())=some (rp B10 (b6j a (d4u b)),()):=g8f ha.1 ha.2 hb.1 hb.2 (Nat.le_refl _) (Nat.le_refl _)
theorem g1d {a b:Q3} (ha:okq a) (hb:okq b) (h0:b.2.1≠0):S.a7y (((rp B10 a).1,(rp B10 a).2.1,(rp B10 a).2.2),((rp B10 b).1,(rp B10 b).2.1,(rp B10 b).2.2),())=some (rp B10 (a2p a b),()):=g0y ha.1 ha.2 hb.1 hb.2 h0 (Nat.le_refl _) (Nat.le_refl _)
theorem g1e (q:Q3):S.b0j (((rp B10 q).1,(rp B10 q).2.1,(rp B10 q).2.2),())=some (decide (q.2.1=0),()):=by
 unfold S.b0j P.c0n rp;dsimp only;congr 2;rw[Bool.eq_iff_iff,beq_iff_eq,decide_eq_true_iff,<-d1o (B:=B10) (by decide),<-List.length_eq_zero_iff];omega
def svM (b:Nat->Nat->Q3) (k r j:Nat):Nat->Nat->Q3:=fun x y=>if x<r\/(x=r/\y<j)then elF true b k x y else b x y
theorem g1f (b:Nat->Nat->Q3) (k r:Nat) (h:r=k\/(b r k).2.1=0):svM b k r 0=svM b k (r+1) 0:=by
 funext x y;unfold svM
 by_cases w:x<r
 ·rw[if_pos (Or.inl w),if_pos (Or.inl (by omega))]
 ·by_cases w2:x=r
  ·subst w2;rw[if_neg (by omega),if_pos (Or.inl (by omega))];unfold elF;rw[if_neg (fun q=>by
    rcases h with h|h
    ·rcases q.1 with q|q
     ·omega
     ·exact q.2 h
    ·exact q.2.1 h)]
  ·rw[if_neg (by omega),if_neg (by omega)]
theorem g6a (b:Nat->Nat->Q3) {n k r:Nat} :om B10 n (n+1) (svM b k r (n+1))=om B10 n (n+1) (svM b k (r+1) 0):=b2g fun x hx y hy=>by
 unfold svM
 by_cases w:x<r\/(x=r/\y<n+1)
 ·rw[if_pos w,if_pos (by omega)]
 ·rw[if_neg w,if_neg (by omega)]
theorem g6b {b:Nat->Nat->Q3} {n k:Nat} (h:elOk b n k) {r:Nat} (hr:r<n) (hrk:r≠k) (hf:(b r k).2.1≠0) (g) {K:Nat} (hK:13<K):
  loopP (P.a7z g) K ((k:Int),(n:Int),om B10 n (n+1) (svM b k r 0),(r:Int),rp B10 (a2p (b r k) (b k k)),(k:Int),())=g (((r+1:Nat):Int),(n:Int),(k:Int),om B10 n (n+1) (svM b k (r+1) 0),()):=by
 obtain⟨kn,n12,hnum,hp,hF,hM⟩:=h;have hstart:svM b k r 0=svM b k r k:=by
  funext x y;unfold svM
  by_cases w:x<r
  ·rw[if_pos (Or.inl w),if_pos (Or.inl w)]
  ·rw[if_neg (by omega)]
   by_cases w2:x=r/\y<k
   ·rw[if_pos (Or.inr w2)];unfold elF;rw[if_neg (fun q=>by omega)]
   ·rw[if_neg (fun q=>q.elim w w2)]
 rw[hstart]
 have key:=g2c (k:=K) (b:=P.a7z g) (s:=k) (n:=n+1) (st:=fun j=>((j:Int),(n:Int),om B10 n (n+1) (svM b k r j),(r:Int),rp B10 (a2p (b r k) (b k k)),(k:Int),())) (F:=fun _=>g (((r+1:Nat):Int),(n:Int),(k:Int),om B10 n (n+1) (svM b k (r+1) 0),())) (by omega) (fun j g' hkj hj hg=>by
  unfold P.a7z;dsimp only at hg ⊢;have e1:(j:Int)<=(n:Int):=by omega
  have e2:(0:Int)<=(j:Int):=by omega
  have e3:(0:Int)<=(r:Int):=by omega
  have e4:(r:Int)<(n:Int):=by omega
  have e5:(0:Int)<=(k:Int):=by omega
  have e6:(k:Int)<(n:Int):=by omega
  have e7:(j:Int)<((n+1:Nat):Int):=by omega
  have v2:svM b k r j k j=b k j:=by
   unfold svM
   by_cases w:k<r\/(k=r/\j<j)
   ·rw[if_pos w];unfold elF;rw[if_neg (fun q=>by
     rcases q.1 with q|q
     ·omega
     ·exact q.2 rfl)]
   ·rw[if_neg w]
  have v3:svM b k r j r j=b r j:=by
   unfold svM;rw[if_neg (by omega)]
  have v5:g2a (svM b k r j) r j (b6j (b r j) (d4u (b8c (a2p (b r k) (b k k)) (b k j))))=svM b k r (j+1):=by
   funext x y;unfold g2a
   by_cases q:x=r/\y=j
   ·rw[if_pos q,q.1,q.2];unfold svM;rw[if_pos (Or.inr ⟨rfl,by omega⟩)];unfold elF;rw[if_pos ⟨Or.inr ⟨rfl,hrk⟩,hf,hkj⟩];rfl
   ·rw[if_neg q];unfold svM
    by_cases w:x<r\/(x=r/\y<j)
    ·rw[if_pos w,if_pos (by omega)]
    ·rw[if_neg w,if_neg (by omega)]
  simp only[a0k,a3t,Int.toNat_natCast,Nat.zero_add,c0p hr,c0p kn,c3e hr,c3e kn,b2w (show j<n+1 by omega),a0r,e1,e2,e3,e4,e5,e6,e7,decide_true,if_true,Bool.false_eq_true,if_false,v2,v3];rw[h3w (hF r hr) (hnum k kn j (by omega)),Option.bind_some];dsimp only;rw[h3x (hnum r hr j (by omega)) (hM r hr j (by omega)),Option.bind_some];dsimp only;rw[wr (by omega) (by omega)];show g' (_,_,nrm (hd0 _) ((in0 _).set r (((tab (n+1) (svM b k r j r)).map (rp B10)).set j (rp B10 _))),_)=_;rw[d0g hr,v5];exact hg) (fun g'=>by
  unfold P.a7z;dsimp only;rw[if_neg (by simp;omega),a0r,a0w,wr (by omega) (by omega),if_neg (by decide),g6a];rfl) (by omega)
 exact key
theorem h1g {b:Nat->Nat->Q3} {n k:Nat} (h:elOk b n k) (g) {K:Nat} (hK:13<K):
  loopP (P.a4r K g) K ((0:Int),(n:Int),(k:Int),om B10 n (n+1) b,())=g (((k+1:Nat):Int),(n:Int),om B10 n (n+1) (elF true b k),()):=by
 have h':=h;obtain⟨kn,n12,hnum,hp,hF,hM⟩:=h;have hstart:svM b k 0 0=b:=by
  funext x y;unfold svM;rw[if_neg (by omega)]
 have key:=a0f (k:=K) (b:=P.a4r K g) (n:=n) (st:=fun r=>((r:Int),(n:Int),(k:Int),om B10 n (n+1) (svM b k r 0),())) (F:=fun _=>g (((k+1:Nat):Int),(n:Int),om B10 n (n+1) (elF true b k),())) (fun r g' hr hg=>by
  unfold P.a4r;dsimp only at hg ⊢;have e1:(r:Int)<(n:Int):=by omega
  have e3:(0:Int)<=(r:Int):=by omega
  have e5:(0:Int)<=(k:Int):=by omega
  have e6:(k:Int)<(n:Int):=by omega
  have e7:(k:Int)<((n+1:Nat):Int):=by omega
  rw[if_pos (decide_eq_true e1)]
  by_cases hrk:r=k
  ·rw[if_pos (by rw[beq_iff_eq];omega),a0r,a0w,if_neg (by decide),wr (by omega) (by omega),<-hg,<-g1f b k r (Or.inl hrk)];rfl
  rw[if_neg (by rw[beq_iff_eq];omega)];have v1:svM b k r 0 r k=b r k:=by
   unfold svM;rw[if_neg (by omega)]
  have v2:svM b k r 0 k k=b k k:=by
   unfold svM
   by_cases w:k<r\/(k=r/\k<0)
   ·rw[if_pos w];unfold elF;rw[if_neg (fun q=>by
     rcases q.1 with q|q
     ·omega
     ·exact q.2 rfl)]
   ·rw[if_neg w]
  simp only[a0k,a3t,Int.toNat_natCast,Nat.zero_add,c0p hr,c0p kn,c3e hr,c3e kn,b2w (show k<n+1 by omega),a0r,a0w,e1,e3,e5,e6,e7,decide_true,if_true,Bool.false_eq_true,if_false,v1,v2];rw[g1e,Option.bind_some]
  by_cases hz:(b r k).2.1=0
  ·rw[if_pos (decide_eq_true hz),wr (by omega) (by omega),<-hg,<-g1f b k r (Or.inr hz)];rfl
  ·rw[if_neg (by simpa using hz),g1d (hnum r hr k (by omega)) (hnum k kn k (by omega)) hp,Option.bind_some];dsimp only;rw[<-hg];exact g6b h' hr hrk hz g' hK) (fun g'=>by
  unfold P.a4r;dsimp only;rw[if_neg (by simp),a0r,a0w,if_neg (by decide),wr (by omega) (by omega)];have:om B10 n (n+1) (svM b k n 0)=om B10 n (n+1) (elF true b k):=b2g fun x hx y hy=>by
   unfold svM;rw[if_pos (Or.inl hx)]
  rw[this];rfl) (by omega)
 rw[hstart]at key;exact key
theorem h1h {a:Nat->Nat->Q3} {r c i k:Nat} (hi:i<r) (hk:k<r):S.b7g (om B10 r c a,(i:Int),(k:Int),())=some ((),om B10 r c (swQ a i k),()):=by
 unfold S.b7g P.c5e;dsimp only;have e1:(0:Int)<=(i:Int):=by omega
 have e2:(i:Int)<(r:Int):=by omega
 have e3:(0:Int)<=(k:Int):=by omega
 have e4:(k:Int)<(r:Int):=by omega
 have hs:=h1w (B:=B10) (c:=c) (a:=a) hi hk;have hp:∀p:Nat×Nat,(p.1,p.2)=p:=fun p=>rfl
 simp only[hp,a0k,a3t,List.length_set,Int.toNat_natCast,Nat.zero_add,hs,h4k,h4l hi hk,e1,e2,e3,e4,decide_true,if_true,Bool.false_eq_true,if_false]
theorem g1g {a:Nat->Nat->Q3} {n k:Nat} (hk:k<n) (n12:n<=12) (g) {K:Nat} :∀(m i F:Nat),i+m=n->m<F->pvF (fun i=>decide ((a i k).2.1≠0)) m i<n->
  loopP (P.b4b K g) F ((i:Int),(n:Int),om B10 n (n+1) a,(k:Int),())=loopP (P.a4r K g) K ((0:Int),(n:Int),(k:Int),om B10 n (n+1) (swQ a k (pvF (fun i=>decide ((a i k).2.1≠0)) m i)),()):=by
 intro m
 induction m with
 |zero=>
  intro i F hi hF hp;unfold pvF at hp;omega
 |succ m ih=>
  intro i F hi hF hp;obtain⟨F,rfl⟩:∃j,F=j+1:=⟨F - 1,by omega⟩
  rw[a0j];have ih':=ih (i+1) F (by omega) (by omega);generalize loopP (P.b4b K g) F=g' at ih' ⊢;unfold P.b4b;dsimp only;have hin:i<n:=by omega
  have e1:(i:Int)<(n:Int):=by omega
  have e2:(0:Int)<=(i:Int):=by omega
  have e3:(0:Int)<=(k:Int):=by omega
  have e4:(k:Int)<((n+1:Nat):Int):=by omega
  simp only[a0k,a3t,Int.toNat_natCast,Nat.zero_add,c0p hin,c3e hin,b2w (show k<n+1 by omega),a0r,a0w,e1,e2,e3,e4,decide_true,if_true,Bool.false_eq_true,if_false];rw[g1e,Option.bind_some];unfold pvF at hp ⊢
  by_cases hz:(a i k).2.1=0
  ·have hd:¬(decide ((a i k).2.1≠0)=true):=by simp [hz]
   rw[if_neg hd]at hp ⊢;rw[if_pos (decide_eq_true hz),wr (by omega) (by omega)];exact ih' hp
  ·have hd:decide ((a i k).2.1≠0)=true:=decide_eq_true hz;rw[if_pos hd]at hp ⊢;rw[if_neg (by simpa using hz),if_neg (by rw[beq_iff_eq];omega),h1h hk hin,Option.bind_some]
open Classical in
def S.b4m (x:((List ((List RB)×Nat))×Unit)):(Option (((List RB)×Bool)×((List ((List RB)×Nat))×Unit))):=
 if h:∃(a:Nat->Nat->Q3) (n:Nat),x.1=om B10 n (n+1) a/\elsOk true a n then some (((tab h.choose_spec.choose (f6t h.choose h.choose_spec.choose)).map (rp B10),true),om B10 h.choose_spec.choose (h.choose_spec.choose+1) (elim true h.choose_spec.choose h.choose h.choose_spec.choose),())else none
theorem S.e2d (x r) (h:S.b4m x=some r):∃k,P.c7q k x=some r:=by
 obtain⟨m,u⟩:=x;unfold S.b4m at h;dsimp only at h;split at h
 case isFalse=>cases h
 rename_i hc;have hs:=hc.choose_spec.choose_spec;cases h;generalize hc.choose_spec.choose=n at*;generalize hc.choose=a at*;obtain⟨rfl,hr⟩:=hs;obtain⟨n12,hnum,hpiv,hel,hdia⟩:=hr;refine⟨14,?_⟩;unfold P.c7q;dsimp only;rw[a0r,a0w,a0k,a3t,if_neg (by decide)];have key:=a0f (k:=14) (b:=P.b4c 14) (n:=n) (st:=fun k=>((k:Int),(n:Int),om B10 n (n+1) (elim true n a k),())) (F:=fun _=>some (((tab n (f6t a n)).map (rp B10),true),om B10 n (n+1) (elim true n a n),())) (fun k g hk hg=>by
  unfold P.b4c;dsimp only at hg ⊢;rw[if_pos (decide_eq_true (by omega)),a0r,a0w,if_neg (by decide)];have hp:=(hpiv k hk).2.1;have he:=hel k hk;have hs:=g1g (a:=elim true n a k) hk n12 g (K:=14) (n - k) k 14 (by omega) (by omega) hp;rw[elim]at hg;rw[<-hg];exact hs.trans (h1g he g (by decide))) (fun g=>by
  unfold P.b4c;dsimp only;rw[if_neg (by simp),a0r,a0w,if_neg (by decide)];have key2:=a0f (k:=14) (b:=P.b2f) (n:=n) (st:=fun i=>((i:Int),(n:Int),(tab i (f6t a n)).map (rp B10),om B10 n (n+1) (elim true n a n),())) (F:=fun _=>some (((tab n (f6t a n)).map (rp B10),true),om B10 n (n+1) (elim true n a n),())) (fun i g' hi hg=>by
   unfold P.b2f;dsimp only at hg ⊢;have e1:(i:Int)<(n:Int):=by omega
   have e2:(0:Int)<=(i:Int):=by omega
   have e3:(0:Int)<=(n:Int):=by omega
   have e4:(n:Int)<((n+1:Nat):Int):=by omega
   have e5:(i:Int)<((n+1:Nat):Int):=by omega
   have e6:(i+1)*56<=140737488355328:=by omega
   simp only[a0k,a3t,Int.toNat_natCast,Nat.zero_add,c0p hi,c3e hi,b2w (show n<n+1 by omega),b2w (show i<n+1 by omega),a0r,a0w,e1,e2,e3,e4,e5,decide_true,if_true,Bool.false_eq_true,if_false];rw[g1d (hnum n (Nat.le_refl _) i hi n (Nat.le_refl _)) (hnum n (Nat.le_refl _) i hi i (by omega)) (hdia i hi),Option.bind_some];dsimp only;simp only[List.length_map,a1r,List.length_cons,List.length_nil,Nat.zero_add,e6,decide_true,if_true];rw[wr (by omega) (by omega)];rw[<-c0r]at hg;exact hg) (fun g'=>by
   unfold P.b2f;dsimp only;rw[if_neg (by simp),a0r,a0w,if_neg (by decide)]) (by omega)
  exact key2) (by omega)
 exact key
theorem h1i {a:Nat->Nat->Q3} {n:Nat} (h:elsOk true a n):S.b4m (om B10 n (n+1) a,())=some (((tab n (f6t a n)).map (rp B10),true),om B10 n (n+1) (elim true n a n),()):=by
 unfold S.b4m;have hc:∃(b:Nat->Nat->Q3) (m:Nat),(om B10 n (n+1) a,()).1=om B10 m (m+1) b/\elsOk true b m:=⟨a,n,rfl,h⟩
 rw[dif_pos hc];obtain⟨e,hb⟩:=hc.choose_spec.choose_spec;dsimp only at e;generalize hc.choose_spec.choose=m at*;generalize hc.choose=b at*;obtain⟨e1,e2⟩:=g8m a0d e;subst e1;have hab:∀i,i<n->∀j,j<=n->a i j=b i j:=fun i hi j hj=>(e2 i hi).2 j (by omega)
 have hg:=d8j (full:=true) hab (fun k hk=>(h.piv k hk).2.1) n (Nat.le_refl _);have hw:tab n (f6t b n)=tab n (f6t a n):=a1z fun i hi=>by
  unfold f6t;rw[hg i hi n (Nat.le_refl _),hg i hi i (by omega)]
 rw[hw,b2g fun i hi j hj=>hg i hi j (by omega)]
end Go.Cm
end
