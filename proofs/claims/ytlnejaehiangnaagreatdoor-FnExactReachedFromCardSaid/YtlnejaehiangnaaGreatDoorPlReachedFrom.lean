import Derived.Test.YtlnejaehiangnaaGreatDoorPlReachedFromc
set_option linter.unusedVariables false
set_option maxRecDepth 100000
noncomputable section
namespace Go.Cm
abbrev P.i_readNat_b7 (g5:((ByteArray×((List Int)×Unit))→(Option (((List Int)×Bool)×Unit)))) (x8:(Int×(Int×(Int×((List Int)×(Int×(ByteArray×(Int×Unit)))))))) (g9:(Int×(Int×(Int×((List Int)×(Int×(ByteArray×(Int×Unit)))))))→Option (((List Int)×Bool)×Unit)):Option (((List Int)×Bool)×Unit):=
 (if((decide (x8.1<x8.2.1))=true)then(g9 ((IntKind.wrap .i64 (x8.1+(1:Int))),(x8.2.1,((IntKind.wrap .u64 (x8.2.2.1*(10:Int))),(x8.2.2.2.1,(x8.2.2.2.2.1,(x8.2.2.2.2.2.1,(x8.2.2.2.2.2.2.1,()))))))))
 else(Option.bind (S.i_natOf (x8.2.2.1,())) (fun(y10:((List Int)×Unit))=>(Option.bind (S.i_nat_mul (x8.2.2.2.1,(y10.1,()))) (fun(y11:((List Int)×Unit))=>(Option.bind (S.i_natOf (x8.2.2.2.2.1,())) (fun(y12:((List Int)×Unit))=>(Option.bind (S.i_nat_add (y11.1,(y12.1,()))) (fun(y13:((List Int)×Unit))=>(if((decide ((0:Int)≤(((ByteArray.size x8.2.2.2.2.2.1):Nat):Int)))=true)then(if((decide ((((ByteArray.size x8.2.2.2.2.2.1):Nat):Int)≤(((ByteArray.size x8.2.2.2.2.2.1):Nat):Int)))=true)then(if((decide ((0:Int)≤x8.2.2.2.2.2.2.1))=true)then(if((decide (x8.2.2.2.2.2.2.1≤(((ByteArray.size x8.2.2.2.2.2.1):Nat):Int)))=true)then(g5 ((ByteArray.extract x8.2.2.2.2.2.1 (Int.toNat x8.2.2.2.2.2.2.1) (Int.toNat (((ByteArray.size x8.2.2.2.2.2.1):Nat):Int))),(y13.1,())))
 else none)
 else none)
 else none)
 else none))))))))))
abbrev P.i_readNat_b15 (g5:((ByteArray×((List Int)×Unit))→(Option (((List Int)×Bool)×Unit)))) (x16:(Int×(Int×(Int×((List Int)×(Int×(ByteArray×(Int×Unit)))))))) (g17:(Int×(Int×(Int×((List Int)×(Int×(ByteArray×(Int×Unit)))))))→Option (((List Int)×Bool)×Unit)):Option (((List Int)×Bool)×Unit):=
 (if((decide (x16.1<x16.2.1))=true)then(g17 ((IntKind.wrap .i64 (x16.1+(1:Int))),(x16.2.1,((IntKind.wrap .u64 (x16.2.2.1*(10:Int))),(x16.2.2.2.1,(x16.2.2.2.2.1,(x16.2.2.2.2.2.1,(x16.2.2.2.2.2.2.1,()))))))))
 else(Option.bind (S.i_natOf (x16.2.2.1,())) (fun(y18:((List Int)×Unit))=>(Option.bind (S.i_nat_mul (x16.2.2.2.1,(y18.1,()))) (fun(y19:((List Int)×Unit))=>(Option.bind (S.i_natOf (x16.2.2.2.2.1,())) (fun(y20:((List Int)×Unit))=>(Option.bind (S.i_nat_add (y19.1,(y20.1,()))) (fun(y21:((List Int)×Unit))=>(if((decide ((0:Int)≤(((ByteArray.size x16.2.2.2.2.2.1):Nat):Int)))=true)then(if((decide ((((ByteArray.size x16.2.2.2.2.2.1):Nat):Int)≤(((ByteArray.size x16.2.2.2.2.2.1):Nat):Int)))=true)then(if((decide ((0:Int)≤x16.2.2.2.2.2.2.1))=true)then(if((decide (x16.2.2.2.2.2.2.1≤(((ByteArray.size x16.2.2.2.2.2.1):Nat):Int)))=true)then(g5 ((ByteArray.extract x16.2.2.2.2.2.1 (Int.toNat x16.2.2.2.2.2.2.1) (Int.toNat (((ByteArray.size x16.2.2.2.2.2.1):Nat):Int))),(y21.1,())))
 else none)
 else none)
 else none)
 else none))))))))))
abbrev P.i_readNat_b3 (k:Nat) (x4:(ByteArray×((List Int)×Unit))) (g5:(ByteArray×((List Int)×Unit))→Option (((List Int)×Bool)×Unit)):Option (((List Int)×Bool)×Unit):=
 (if((!((ByteArray.toList x4.1)==(ByteArray.toList (bs []))))=true)then(if(((Int.tmod (((ByteArray.size x4.1):Nat):Int) (9:Int))==(0:Int))=true)then(if((decide ((9:Int)≤(((ByteArray.size x4.1):Nat):Int)))=true)then(Option.bind (S.strconv_ParseUint ((ByteArray.extract x4.1 (0:Nat) (9:Nat)),((10:Int),((64:Int),())))) (fun(y6:((Int×Bool)×Unit))=>(loopP (X:=(Int×(Int×(Int×((List Int)×(Int×(ByteArray×(Int×Unit)))))))) (R:=(((List Int)×Bool)×Unit)) (P.i_readNat_b7 g5) k ((0:Int),((9:Int),((1:Int),(x4.2.1,(y6.1.1,(x4.1,((9:Int),()))))))))))
 else none)
 else(if((decide ((0:Int)≤(Int.tmod (((ByteArray.size x4.1):Nat):Int) (9:Int))))=true)then(if((decide ((Int.tmod (((ByteArray.size x4.1):Nat):Int) (9:Int))≤(((ByteArray.size x4.1):Nat):Int)))=true)then(if((decide ((0:Int)≤(Int.tmod (((ByteArray.size x4.1):Nat):Int) (9:Int))))=true)then(Option.bind (S.strconv_ParseUint ((ByteArray.extract x4.1 (0:Nat) (Int.toNat (Int.tmod (((ByteArray.size x4.1):Nat):Int) (9:Int)))),((10:Int),((64:Int),())))) (fun(y14:((Int×Bool)×Unit))=>(loopP (X:=(Int×(Int×(Int×((List Int)×(Int×(ByteArray×(Int×Unit)))))))) (R:=(((List Int)×Bool)×Unit)) (P.i_readNat_b15 g5) k ((0:Int),((Int.tmod (((ByteArray.size x4.1):Nat):Int) (9:Int)),((1:Int),(x4.2.1,(y14.1.1,(x4.1,((Int.tmod (((ByteArray.size x4.1):Nat):Int) (9:Int)),()))))))))))
 else none)
 else none)
 else none))
 else(some ((x4.2.1,true),())))
abbrev P.i_readNat_b0 (k:Nat) (x1:(Int×(Int×(ByteArray×((List Int)×Unit))))) (g2:(Int×(Int×(ByteArray×((List Int)×Unit))))→Option (((List Int)×Bool)×Unit)):Option (((List Int)×Bool)×Unit):=
 (if((decide (x1.1<x1.2.1))=true)then(if((decide ((0:Int)≤x1.1))=true)then(if((decide (x1.1<(((ByteArray.size x1.2.2.1):Nat):Int)))=true)then(if((decide ((byteAt x1.2.2.1 x1.1)<(48:Int)))=true)then(some ((([]:List Int),false),()))
 else(if((decide ((0:Int)≤x1.1))=true)then(if((decide (x1.1<(((ByteArray.size x1.2.2.1):Nat):Int)))=true)then(if((decide ((byteAt x1.2.2.1 x1.1)>(57:Int)))=true)then(some ((([]:List Int),false),()))
 else(g2 ((IntKind.wrap .i64 (x1.1+(1:Int))),(x1.2.1,(x1.2.2.1,(x1.2.2.2.1,()))))))
 else none)
 else none))
 else none)
 else none)
 else(loopP (X:=(ByteArray×((List Int)×Unit))) (R:=(((List Int)×Bool)×Unit)) (P.i_readNat_b3 k) k (x1.2.2.1,(x1.2.2.2.1,()))))
abbrev P.i_readNat_b29 (g27:((ByteArray×((List Int)×Unit))→(Option (((List Int)×Bool)×Unit)))) (x30:(Int×(Int×(Int×((List Int)×(Int×(ByteArray×(Int×Unit)))))))) (g31:(Int×(Int×(Int×((List Int)×(Int×(ByteArray×(Int×Unit)))))))→Option (((List Int)×Bool)×Unit)):Option (((List Int)×Bool)×Unit):=
 (if((decide (x30.1<x30.2.1))=true)then(g31 ((IntKind.wrap .i64 (x30.1+(1:Int))),(x30.2.1,((IntKind.wrap .u64 (x30.2.2.1*(10:Int))),(x30.2.2.2.1,(x30.2.2.2.2.1,(x30.2.2.2.2.2.1,(x30.2.2.2.2.2.2.1,()))))))))
 else(Option.bind (S.i_natOf (x30.2.2.1,())) (fun(y32:((List Int)×Unit))=>(Option.bind (S.i_nat_mul (x30.2.2.2.1,(y32.1,()))) (fun(y33:((List Int)×Unit))=>(Option.bind (S.i_natOf (x30.2.2.2.2.1,())) (fun(y34:((List Int)×Unit))=>(Option.bind (S.i_nat_add (y33.1,(y34.1,()))) (fun(y35:((List Int)×Unit))=>(if((decide ((0:Int)≤(((ByteArray.size x30.2.2.2.2.2.1):Nat):Int)))=true)then(if((decide ((((ByteArray.size x30.2.2.2.2.2.1):Nat):Int)≤(((ByteArray.size x30.2.2.2.2.2.1):Nat):Int)))=true)then(if((decide ((0:Int)≤x30.2.2.2.2.2.2.1))=true)then(if((decide (x30.2.2.2.2.2.2.1≤(((ByteArray.size x30.2.2.2.2.2.1):Nat):Int)))=true)then(g27 ((ByteArray.extract x30.2.2.2.2.2.1 (Int.toNat x30.2.2.2.2.2.2.1) (Int.toNat (((ByteArray.size x30.2.2.2.2.2.1):Nat):Int))),(y35.1,())))
 else none)
 else none)
 else none)
 else none))))))))))
abbrev P.i_readNat_b37 (g27:((ByteArray×((List Int)×Unit))→(Option (((List Int)×Bool)×Unit)))) (x38:(Int×(Int×(Int×((List Int)×(Int×(ByteArray×(Int×Unit)))))))) (g39:(Int×(Int×(Int×((List Int)×(Int×(ByteArray×(Int×Unit)))))))→Option (((List Int)×Bool)×Unit)):Option (((List Int)×Bool)×Unit):=
 (if((decide (x38.1<x38.2.1))=true)then(g39 ((IntKind.wrap .i64 (x38.1+(1:Int))),(x38.2.1,((IntKind.wrap .u64 (x38.2.2.1*(10:Int))),(x38.2.2.2.1,(x38.2.2.2.2.1,(x38.2.2.2.2.2.1,(x38.2.2.2.2.2.2.1,()))))))))
 else(Option.bind (S.i_natOf (x38.2.2.1,())) (fun(y40:((List Int)×Unit))=>(Option.bind (S.i_nat_mul (x38.2.2.2.1,(y40.1,()))) (fun(y41:((List Int)×Unit))=>(Option.bind (S.i_natOf (x38.2.2.2.2.1,())) (fun(y42:((List Int)×Unit))=>(Option.bind (S.i_nat_add (y41.1,(y42.1,()))) (fun(y43:((List Int)×Unit))=>(if((decide ((0:Int)≤(((ByteArray.size x38.2.2.2.2.2.1):Nat):Int)))=true)then(if((decide ((((ByteArray.size x38.2.2.2.2.2.1):Nat):Int)≤(((ByteArray.size x38.2.2.2.2.2.1):Nat):Int)))=true)then(if((decide ((0:Int)≤x38.2.2.2.2.2.2.1))=true)then(if((decide (x38.2.2.2.2.2.2.1≤(((ByteArray.size x38.2.2.2.2.2.1):Nat):Int)))=true)then(g27 ((ByteArray.extract x38.2.2.2.2.2.1 (Int.toNat x38.2.2.2.2.2.2.1) (Int.toNat (((ByteArray.size x38.2.2.2.2.2.1):Nat):Int))),(y43.1,())))
 else none)
 else none)
 else none)
 else none))))))))))
abbrev P.i_readNat_b25 (k:Nat) (x26:(ByteArray×((List Int)×Unit))) (g27:(ByteArray×((List Int)×Unit))→Option (((List Int)×Bool)×Unit)):Option (((List Int)×Bool)×Unit):=
 (if((!((ByteArray.toList x26.1)==(ByteArray.toList (bs []))))=true)then(if(((Int.tmod (((ByteArray.size x26.1):Nat):Int) (9:Int))==(0:Int))=true)then(if((decide ((9:Int)≤(((ByteArray.size x26.1):Nat):Int)))=true)then(Option.bind (S.strconv_ParseUint ((ByteArray.extract x26.1 (0:Nat) (9:Nat)),((10:Int),((64:Int),())))) (fun(y28:((Int×Bool)×Unit))=>(loopP (X:=(Int×(Int×(Int×((List Int)×(Int×(ByteArray×(Int×Unit)))))))) (R:=(((List Int)×Bool)×Unit)) (P.i_readNat_b29 g27) k ((0:Int),((9:Int),((1:Int),(x26.2.1,(y28.1.1,(x26.1,((9:Int),()))))))))))
 else none)
 else(if((decide ((0:Int)≤(Int.tmod (((ByteArray.size x26.1):Nat):Int) (9:Int))))=true)then(if((decide ((Int.tmod (((ByteArray.size x26.1):Nat):Int) (9:Int))≤(((ByteArray.size x26.1):Nat):Int)))=true)then(if((decide ((0:Int)≤(Int.tmod (((ByteArray.size x26.1):Nat):Int) (9:Int))))=true)then(Option.bind (S.strconv_ParseUint ((ByteArray.extract x26.1 (0:Nat) (Int.toNat (Int.tmod (((ByteArray.size x26.1):Nat):Int) (9:Int)))),((10:Int),((64:Int),())))) (fun(y36:((Int×Bool)×Unit))=>(loopP (X:=(Int×(Int×(Int×((List Int)×(Int×(ByteArray×(Int×Unit)))))))) (R:=(((List Int)×Bool)×Unit)) (P.i_readNat_b37 g27) k ((0:Int),((Int.tmod (((ByteArray.size x26.1):Nat):Int) (9:Int)),((1:Int),(x26.2.1,(y36.1.1,(x26.1,((Int.tmod (((ByteArray.size x26.1):Nat):Int) (9:Int)),()))))))))))
 else none)
 else none)
 else none))
 else(some ((x26.2.1,true),())))
abbrev P.i_readNat_b22 (k:Nat) (x23:(Int×(Int×(ByteArray×((List Int)×Unit))))) (g24:(Int×(Int×(ByteArray×((List Int)×Unit))))→Option (((List Int)×Bool)×Unit)):Option (((List Int)×Bool)×Unit):=
 (if((decide (x23.1<x23.2.1))=true)then(if((decide ((0:Int)≤x23.1))=true)then(if((decide (x23.1<(((ByteArray.size x23.2.2.1):Nat):Int)))=true)then(if((decide ((byteAt x23.2.2.1 x23.1)<(48:Int)))=true)then(some ((([]:List Int),false),()))
 else(if((decide ((0:Int)≤x23.1))=true)then(if((decide (x23.1<(((ByteArray.size x23.2.2.1):Nat):Int)))=true)then(if((decide ((byteAt x23.2.2.1 x23.1)>(57:Int)))=true)then(some ((([]:List Int),false),()))
 else(g24 ((IntKind.wrap .i64 (x23.1+(1:Int))),(x23.2.1,(x23.2.2.1,(x23.2.2.2.1,()))))))
 else none)
 else none))
 else none)
 else none)
 else(loopP (X:=(ByteArray×((List Int)×Unit))) (R:=(((List Int)×Bool)×Unit)) (P.i_readNat_b25 k) k (x23.2.2.1,(x23.2.2.2.1,()))))
def P.i_readNat (k:Nat) (x:(ByteArray×Unit)):(Option (((List Int)×Bool)×Unit)):=
 (if(((ByteArray.toList x.1)==(ByteArray.toList (bs [])))=true)then(some ((([]:List Int),false),()))
 else(if((decide ((((ByteArray.size x.1):Nat):Int)>(200:Int)))=true)then(some ((([]:List Int),false),()))
 else(if((decide ((0:Int)<(((ByteArray.size x.1):Nat):Int)))=true)then(if(((byteAt x.1 (0:Int))==(48:Int))=true)then(if((decide ((((ByteArray.size x.1):Nat):Int)>(1:Int)))=true)then(some ((([]:List Int),false),()))
 else(loopP (X:=(Int×(Int×(ByteArray×((List Int)×Unit))))) (R:=(((List Int)×Bool)×Unit)) (P.i_readNat_b0 k) k ((0:Int),((((ByteArray.size x.1):Nat):Int),(x.1,(([]:List Int),()))))))
 else(loopP (X:=(Int×(Int×(ByteArray×((List Int)×Unit))))) (R:=(((List Int)×Bool)×Unit)) (P.i_readNat_b22 k) k ((0:Int),((((ByteArray.size x.1):Nat):Int),(x.1,(([]:List Int),()))))))
 else none)))
theorem rn_len {p m:Nat} (h:p<10^m):(nd B32 p).length≤m:=by
 rw[nd_len B32_le]
 exact Nat.lt_of_lt_of_le h (Nat.pow_le_pow_left (by decide) _)
theorem rn_times (g:((ByteArray×((List Int)×Unit))→(Option (((List Int)×Bool)×Unit)))) (t:ByteArray) (p v n:Nat) (hn:n≤9) (hv:v<10^n) (hp:p<10^200) (hnl:n≤t.size) (K:Nat) (hK:n<K):
  loopP (P.i_readNat_b7 g) K ((0:Int),((n:Int),((1:Int),(nd B32 p,((v:Int),(t,((n:Int),())))))))=g (ByteArray.extract t n t.size,(nd B32 (p*10^n+v),())):=by
 have hp9:10^n≤10^9:=Nat.pow_le_pow_right (by decide) hn
 have h9:(10:Nat)^9=1000000000:=by decide
 have key:=loop_up0 (k:=K) (b:=P.i_readNat_b7 g) (n:=n) (st:=fun i=>((i:Int),(n:Int),((10^i:Nat):Int),nd B32 p,(v:Int),t,(n:Int),())) (F:=fun i=>g (ByteArray.extract t n t.size,(nd B32 (p*10^n+v),()))) (fun i g' hi hg'=>by
  unfold P.i_readNat_b7
  dsimp only at hg' ⊢
  refine Eq.trans ?_ hg'
  have e1:(i:Int)<(n:Int):=by omega
  have hpi:10^(i+1)≤10^9:=Nat.pow_le_pow_right (by decide) (by omega)
  rw[Nat.pow_succ]at hpi ⊢
  rw[if_pos (decide_eq_true e1),wr (by omega) (by omega),show((10^i:Nat):Int)*10=((10^i*10:Nat):Int) by omega,wu (by omega) (by omega)]
  rfl) (fun g'=>by
  unfold P.i_readNat_b7
  dsimp only
  rw[if_neg (by simp)]
  unfold S.i_natOf S.i_nat_mul S.i_nat_add
  dsimp only
  have hl1:=rn_len hp
  have hl2:=rn_len (p:=10^n) (m:=10) (by omega)
  have hl3:(nd B32 (p*10^n)).length≤209:=rn_len (by
   have:p*10^n<10^200*10^9:=Nat.mul_lt_mul_of_lt_of_le hp hp9 (Nat.pow_pos (by decide))
   rwa [←Nat.pow_add]at this)
  have hl4:=rn_len (p:=v) (m:=9) (by omega)
  rw[if_pos ⟨by omega,by omega⟩,Option.bind_some,Int.toNat_natCast]
  dsimp only
  rw[if_pos ⟨dig_nd B32_le _,dig_nd B32_le _,by omega,by omega⟩,Option.bind_some,if_pos ⟨by omega,by omega⟩,Option.bind_some,Int.toNat_natCast]
  dsimp only
  rw[dval_nd B32_le,dval_nd B32_le,if_pos ⟨dig_nd B32_le _,dig_nd B32_le _,by omega,by omega⟩,Option.bind_some,dval_nd B32_le,dval_nd B32_le]
  have c1:(0:Int)≤(t.size:Int):=by omega
  have c2:(0:Int)≤(n:Int):=by omega
  have c3:(n:Int)≤(t.size:Int):=by omega
  rw[if_pos (decide_eq_true c1),if_pos (decide_eq_true (Int.le_refl _)),if_pos (decide_eq_true c2),if_pos (decide_eq_true c3),Int.toNat_natCast,Int.toNat_natCast]) hK
 exact key
theorem rn_loop (K:Nat) (hK:10≤K) (m:Nat):∀(t:ByteArray) (p k:Nat),t.data.toList.length=m→allD t.data.toList=true→m≤200→p<10^(200 - m)→m<k→
  loopP (P.i_readNat_b3 K) k (t,(nd B32 p,()))=some ((nd B32 (p*10^m+dv t.data.toList),true),()):=by
 induction m using Nat.strongRecOn with
 |ind m ih=>
  intro t p k hm hd hm2 hp hk
  obtain⟨k,rfl⟩:∃j,k=j+1:=⟨k - 1,by omega⟩
  rw[loopP_succ]
  have hs:t.size=t.data.toList.length:=by rw[Array.length_toList];rfl
  have hstep:∀n:Nat,0<n→n≤9→n≤m→Option.bind (S.strconv_ParseUint (ByteArray.extract t 0 n,(10,(64,())))) (fun(y6:((Int×Bool)×Unit))=>(Go.Cm.loopP (P.i_readNat_b7 (loopP (P.i_readNat_b3 K) k)) K ((0:Int),((n:Int),((1:Int),(nd B32 p,(y6.1.1,(t,((n:Int),())))))))))=some ((nd B32 (p*10^m+dv t.data.toList),true),()):=by
   intro n hn0 hn9 hnm
   have hx:(ByteArray.extract t 0 n).data.toList=t.data.toList.take n:=by rw[ext_list,List.drop_zero]
   have hxl:(t.data.toList.take n).length=n:=by simp;omega
   have hxs:(ByteArray.extract t 0 n).size=n:=by
    have:(ByteArray.extract t 0 n).size=(ByteArray.extract t 0 n).data.toList.length:=by rw[Array.length_toList];rfl
    rw[this,hx,hxl]
   have hdx:=allD_take hd n
   have hpar:=parse_dv (t.data.toList.take n) hdx (by intro q;rw[q]at hxl;simp at hxl;omega) (by omega)
   unfold S.strconv_ParseUint
   dsimp only
   rw[if_pos ⟨rfl,rfl,by omega⟩,hx,hpar,Option.bind_some]
   dsimp only
   have hv:=dv_lt hdx
   rw[hxl]at hv
   have hp200:p<10^200:=Nat.lt_of_lt_of_le hp (Nat.pow_le_pow_right (by decide) (by omega))
   rw[rn_times _ t p _ n hn9 hv hp200 (by omega) K (by omega)]
   have hd2:(ByteArray.extract t n t.size).data.toList=t.data.toList.drop n:=by
    rw[ext_list,List.take_of_length_le (by omega)]
   have hl2:(t.data.toList.drop n).length=m - n:=by simp;omega
   have hb:p*10^n+dv (t.data.toList.take n)<10^(200 - (m - n)):=by
    have h1:(p+1)*10^n≤10^(200 - m)*10^n:=Nat.mul_le_mul_right _ hp
    rw[←Nat.pow_add,show 200 - m+n=200 - (m - n) by omega,Nat.add_mul,Nat.one_mul]at h1
    omega
   rw[ih (m - n) (by omega) _ _ k (by rw[hd2,hl2]) (by rw[hd2];exact allD_drop hd n) (by omega) hb (by omega),hd2]
   have h3:=dv_append (t.data.toList.take n) (t.data.toList.drop n)
   rw[List.take_append_drop,hl2]at h3
   rw[h3,Nat.add_mul,Nat.mul_assoc,←Nat.pow_add,show n+(m - n)=m by omega,Nat.add_assoc]
  generalize loopP (P.i_readNat_b3 K) k=G at hstep ⊢
  unfold P.i_readNat_b3
  dsimp only
  have hbs:ByteArray.toList (bs [])=[]:=by rw[ByteArray.toList_eq];rfl
  rw[hbs,ByteArray.toList_eq,hs,hm]
  by_cases h0:m=0
  ·subst h0
   have:t.data.toList=[]:=List.eq_nil_of_length_eq_zero hm
   rw[this,if_neg (by simp),Nat.pow_zero,Nat.mul_one,show dv []=0 from rfl,Nat.add_zero]
  ·have hne:t.data.toList≠ []:=by
    intro q
    rw[q]at hm
    simp at hm
    omega
   have hmod:Int.tmod (m:Int) 9=((m%9:Nat):Int):=by
    rw[Int.tmod_eq_emod_of_nonneg (by omega)]
    omega
   rw[if_pos (by simpa using hne),hmod]
   by_cases h9:m%9=0
   ·have c1:(9:Int)≤(m:Int):=by omega
    rw[if_pos (by simp [h9]),if_pos (decide_eq_true c1)]
    exact hstep 9 (by omega) (by omega) (by omega)
   ·have c1:(0:Int)≤((m%9:Nat):Int):=by omega
    have c2:((m%9:Nat):Int)≤(m:Int):=by omega
    rw[if_neg (by simp;omega),if_pos (decide_eq_true c1),if_pos (decide_eq_true c2),if_pos (decide_eq_true c1),Int.toNat_natCast]
    exact hstep (m%9) (by omega) (by omega) (by omega)
theorem rn_scan (b:Nat→(Int×(Int×(ByteArray×((List Int)×Unit))))→((Int×(Int×(ByteArray×((List Int)×Unit))))→Option (((List Int)×Bool)×Unit))→Option (((List Int)×Bool)×Unit)) (hbb:b=P.i_readNat_b0) (t:ByteArray) (hl:t.data.toList.length≤200) (K:Nat) (hK:300≤K):
  loopP (b K) K ((0:Int),((t.size:Int),(t,([],()))))=some (if allD t.data.toList=true then(nd B32 (dv t.data.toList),true)else([],false),()):=by
 subst hbb
 have hs:t.size=t.data.toList.length:=by rw[Array.length_toList];rfl
 rw[hs]
 have hloop:=rn_loop K (by omega) t.data.toList.length t 0 K rfl
 generalize hL:t.data.toList=l at*
 have key:∀d i k:Nat,i+d=l.length→d<k→allD (l.take i)=true→loopP (P.i_readNat_b0 K) k ((i:Int),((l.length:Int),(t,(([]:List Int),()))))=some (if allD l=true then(nd B32 (dv l),true)else([],false),()):=by
  intro d
  induction d with
  |zero=>
   intro i k hi hk hd
   obtain⟨k,rfl⟩:∃j,k=j+1:=⟨k - 1,by omega⟩
   have:i=l.length:=by omega
   subst this
   rw[List.take_length]at hd
   rw[loopP_succ]
   unfold P.i_readNat_b0
   dsimp only
   rw[if_neg (by simp),if_pos hd]
   have:=hloop hd hl (Nat.pow_pos (by decide)) (by omega)
   rw[nd_zero B32_le,Nat.zero_mul,Nat.zero_add]at this
   exact this
  |succ d ih=>
   intro i k hi hk hd
   obtain⟨k,rfl⟩:∃j,k=j+1:=⟨k - 1,by omega⟩
   have hil:i<l.length:=by omega
   rw[loopP_succ]
   unfold P.i_readNat_b0
   dsimp only
   have e1:(i:Int)<(l.length:Int):=by omega
   have e2:(0:Int)≤(i:Int):=by omega
   have hb:byteAt t (i:Int)=(l[i].toNat:Int):=by
    unfold byteAt
    rw[hL,getD_cast l i _ hil]
   have ha2:allD (l.take (i+1))=(allD (l.take i)&&isD l[i]):=by
    rw[←List.take_append_getElem hil,allD_append]
    simp [allD]
   have ha3:allD l=true→isD l[i]=true:=fun q=>decide_eq_true (allD_get q hil)
   rw[hs,hb,wr (x:=(i:Int)+1) (by omega) (by omega)]
   simp only[e1,e2,decide_true,if_true]
   by_cases c1:48≤l[i].toNat
   ·rw[if_neg (by simp;omega)]
    by_cases c2:l[i].toNat≤57
    ·have:isD l[i]=true:=decide_eq_true ⟨c1,c2⟩
     rw[this,Bool.and_true]at ha2
     rw[if_neg (by simp;omega)]
     exact ih (i+1) k (by omega) (by omega) (by rw[ha2];exact hd)
    ·have:isD l[i]=false:=decide_eq_false (fun q=>c2 q.2)
     rw[if_pos (decide_eq_true (by omega)),if_neg (fun q=>by rw[ha3 q]at this;cases this)]
   ·have:isD l[i]=false:=decide_eq_false (fun q=>c1 q.1)
    rw[if_pos (decide_eq_true (by omega)),if_neg (fun q=>by rw[ha3 q]at this;cases this)]
 exact key l.length 0 K (by omega) (by omega) rfl
def S.i_readNat (x:(ByteArray×Unit)):(Option (((List Int)×Bool)×Unit)):=some (if okN x.1.data.toList=true then(nd B32 (dv x.1.data.toList),true)else([],false),())
theorem S.i_readNat_ok (x:(ByteArray×Unit)) (r:_) (h:S.i_readNat x=some r):∃k,P.i_readNat k x=some r:=by
 obtain⟨t,u⟩:=x
 unfold S.i_readNat at h
 dsimp only at h
 refine⟨300,?_⟩
 rw[←h]
 unfold P.i_readNat
 dsimp only
 have hs:t.size=t.data.toList.length:=by rw[Array.length_toList];rfl
 have hbs:ByteArray.toList (bs [])=[]:=by rw[ByteArray.toList_eq];rfl
 rw[hbs,ByteArray.toList_eq]
 have hscan:=rn_scan P.i_readNat_b0 rfl t
 have hscan2:=rn_scan P.i_readNat_b22 rfl t
 unfold okN okR
 by_cases h1:t.data.toList=[]
 ·rw[h1,if_pos (by rfl)]
  rfl
 ·have hpos:0<t.data.toList.length:=List.length_pos_iff.2 h1
  rw[if_neg (by simpa using h1),decide_eq_true h1,Bool.true_and,hs]
  by_cases h2:t.data.toList.length≤200
  ·have d2:¬(t.data.toList.length:Int)>200:=by omega
   have d3:(0:Int)<(t.data.toList.length:Int):=by omega
   rw[if_neg (by simpa using d2),if_pos (decide_eq_true d3),decide_eq_true h2,Bool.true_and]
   have s1:=hscan h2 300 (by omega)
   have s2:=hscan2 h2 300 (by omega)
   rw[hs]at s1 s2
   have hb:byteAt t 0=(t.data.toList[0].toNat:Int):=by
    exact congrArg (fun c:UInt8=>(c.toNat:Int)) (getD_cast t.data.toList 0 0 hpos)
   have hh:t.data.toList.head? =some t.data.toList[0]:=by
    generalize t.data.toList=l at*
    cases l with
    |nil=>simp at h1
    |cons c r=>rfl
   rw[hb,hh]
   by_cases c1:t.data.toList[0]=48
   ·rw[c1,if_pos (by rfl)]
    by_cases h3:t.data.toList.length=1
    ·have d4:¬(t.data.toList.length:Int)>1:=by omega
     rw[if_neg (by simpa using d4),s1,decide_eq_true h3,Bool.true_or,Bool.and_true]
    ·have d4:(t.data.toList.length:Int)>1:=by omega
     rw[if_pos (decide_eq_true d4),decide_eq_false h3,Bool.false_or,decide_eq_false (by simp),Bool.and_false,if_neg (by simp)]
   ·have c2:¬((t.data.toList[0].toNat:Int)=48):=by
     intro q
     apply c1
     apply UInt8.toNat_inj.1
     show _=48
     omega
    rw[if_neg (by simpa using c2),s2,decide_eq_true (p:=some t.data.toList[0]≠some 48) (by simpa using c1),Bool.or_true,Bool.and_true]
  ·have d2:(t.data.toList.length:Int)>200:=by omega
   rw[if_pos (decide_eq_true d2),decide_eq_false h2,Bool.false_and,Bool.and_false,if_neg (by simp)]
def P.i_readRat (k:Nat) (x:(ByteArray×Unit)):(Option ((RB×Bool)×Unit)):=
 (Option.bind (S.strings_Cut (x.1,((bs [47]),()))) (fun(y0:((ByteArray×(ByteArray×Bool))×Unit))=>(Option.bind (S.strings_CutPrefix (y0.1.1,((bs [45]),()))) (fun(y1:((ByteArray×Bool)×Unit))=>(Option.bind (S.i_readNat (y1.1.1,())) (fun(y2:(((List Int)×Bool)×Unit))=>(if((!y2.1.2)=true)then(some (((false,(([]:List Int),([]:List Int))),false),()))
 else(if(y1.1.2=true)then(if((((List.length y2.1.1):Int)==(0:Int))=true)then(some (((false,(([]:List Int),([]:List Int))),false),()))
 else(Option.bind (S.i_natOf ((1:Int),())) (fun(y3:((List Int)×Unit))=>(if((!y0.1.2.2)=true)then(some (((y1.1.2,(y2.1.1,y3.1)),true),()))
 else(Option.bind (S.i_readNat (y0.1.2.1,())) (fun(y4:(((List Int)×Bool)×Unit))=>(if((!y4.1.2)=true)then(some (((false,(([]:List Int),([]:List Int))),false),()))
 else(Option.bind (S.i_natOf ((1:Int),())) (fun(y5:((List Int)×Unit))=>(Option.bind (S.i_nat_cmp (y4.1.1,(y5.1,()))) (fun(y6:(Int×Unit))=>(if((decide (y6.1≤(0:Int)))=true)then(some (((false,(([]:List Int),([]:List Int))),false),()))
 else(Option.bind (S.i_nat_gcd (y2.1.1,(y4.1.1,()))) (fun(y7:((List Int)×Unit))=>(Option.bind (S.i_natOf ((1:Int),())) (fun(y8:((List Int)×Unit))=>(Option.bind (S.i_nat_cmp (y7.1,(y8.1,()))) (fun(y9:(Int×Unit))=>(if((y9.1 != (0:Int))=true)then(some (((false,(([]:List Int),([]:List Int))),false),()))
 else(some (((y1.1.2,(y2.1.1,y4.1.1)),true),())))))))))))))))))))))
 else(Option.bind (S.i_natOf ((1:Int),())) (fun(y10:((List Int)×Unit))=>(if((!y0.1.2.2)=true)then(some (((y1.1.2,(y2.1.1,y10.1)),true),()))
 else(Option.bind (S.i_readNat (y0.1.2.1,())) (fun(y11:(((List Int)×Bool)×Unit))=>(if((!y11.1.2)=true)then(some (((false,(([]:List Int),([]:List Int))),false),()))
 else(Option.bind (S.i_natOf ((1:Int),())) (fun(y12:((List Int)×Unit))=>(Option.bind (S.i_nat_cmp (y11.1.1,(y12.1,()))) (fun(y13:(Int×Unit))=>(if((decide (y13.1≤(0:Int)))=true)then(some (((false,(([]:List Int),([]:List Int))),false),()))
 else(Option.bind (S.i_nat_gcd (y2.1.1,(y11.1.1,()))) (fun(y14:((List Int)×Unit))=>(Option.bind (S.i_natOf ((1:Int),())) (fun(y15:((List Int)×Unit))=>(Option.bind (S.i_nat_cmp (y14.1,(y15.1,()))) (fun(y16:(Int×Unit))=>(if((y16.1 != (0:Int))=true)then(some (((false,(([]:List Int),([]:List Int))),false),()))
 else(some (((y1.1.2,(y2.1.1,y11.1.1)),true),()))))))))))))))))))))))))))))
def S.i_readRat (x:(ByteArray×Unit)):(Option ((RB×Bool)×Unit)):=if x.1.size<4294967281 then some ((rp B32 (rdRat x.1.data.toList).1,(rdRat x.1.data.toList).2),())else none
theorem rr_bad:((false,(([]:List Int),([]:List Int))),false)=(rp B32 noQ.1,noQ.2):=by
 unfold noQ rp
 dsimp only
 rw[nd_zero B32_le]
theorem natOf_one:S.i_natOf (1,())=some (nd B32 1,()):=by
 unfold S.i_natOf
 rfl
theorem rr_rest (neg:Bool) (c:List UInt8×List UInt8×Bool) (hok:okN c.1=true) (hn:¬(neg=true∧dv c.1=0)):
  (Option.bind (S.i_natOf ((1:Int),())) (fun(y10:((List Int)×Unit))=>(if((!c.2.2)=true)then(some (((neg,(nd B32 (dv c.1),y10.1)),true),()))
 else(Option.bind (S.i_readNat ((⟨c.2.1.toArray⟩:ByteArray),())) (fun(y11:(((List Int)×Bool)×Unit))=>(if((!y11.1.2)=true)then(some (((false,(([]:List Int),([]:List Int))),false),()))
 else(Option.bind (S.i_natOf ((1:Int),())) (fun(y12:((List Int)×Unit))=>(Option.bind (S.i_nat_cmp (y11.1.1,(y12.1,()))) (fun(y13:(Int×Unit))=>(if((decide (y13.1≤(0:Int)))=true)then(some (((false,(([]:List Int),([]:List Int))),false),()))
 else(Option.bind (S.i_nat_gcd (nd B32 (dv c.1),(y11.1.1,()))) (fun(y14:((List Int)×Unit))=>(Option.bind (S.i_natOf ((1:Int),())) (fun(y15:((List Int)×Unit))=>(Option.bind (S.i_nat_cmp (y14.1,(y15.1,()))) (fun(y16:(Int×Unit))=>(if((y16.1 != (0:Int))=true)then(some (((false,(([]:List Int),([]:List Int))),false),()))
 else(some (((neg,(nd B32 (dv c.1),y11.1.1)),true),()))))))))))))))))))))=some ((rp B32 (rdBody neg c).1,(rdBody neg c).2),()):=by
 have hbody:rdBody neg c=(if c.2.2=true then(if okN c.2.1=true∧1<dv c.2.1∧Nat.gcd (dv c.1) (dv c.2.1)=1 then((neg,(dv c.1,dv c.2.1)),true)else noQ)else((neg,(dv c.1,1)),true)):=if_pos ⟨hok,hn⟩
 rw[natOf_one,Option.bind_some,rr_bad,hbody]
 obtain⟨a,b,f⟩:=c
 dsimp only at*
 cases f
 ·rfl
 ·rw[if_neg (by decide),if_pos rfl]
  unfold S.i_readNat
  rw[Option.bind_some]
  dsimp only
  cases hb:okN b
  ·have hx:¬((false:Bool)=true∧1<dv b∧Nat.gcd (dv a) (dv b)=1):=fun q=>by cases q.1
   rw[if_neg hx]
   rfl
  ·have lb:=nd_len200 (B:=B32) (by decide) (okN_lt hb)
   have la:=nd_len200 (B:=B32) (by decide) (okN_lt hok)
   have e1:S.i_nat_cmp (nd B32 (dv b),(nd B32 1,()))=some (cmpN (dv b) 1,()):=by
    unfold S.i_nat_cmp
    dsimp only
    rw[if_pos ⟨canon_nd B32_le _,canon_nd B32_le _,by omega⟩,dval_nd B32_le,dval_nd B32_le]
   have e2:S.i_nat_gcd (nd B32 (dv a),(nd B32 (dv b),()))=some (nd B32 (Nat.gcd (dv a) (dv b)),()):=by
    unfold S.i_nat_gcd
    dsimp only
    rw[if_pos ⟨canon_nd B32_le _,canon_nd B32_le _,by omega,by omega⟩,dval_nd B32_le,dval_nd B32_le]
   show(Option.bind (S.i_natOf ((1:Int),())) (fun(y12:((List Int)×Unit))=>(Option.bind (S.i_nat_cmp (nd B32 (dv b),(y12.1,()))) (fun(y13:(Int×Unit))=>(if((decide (y13.1≤(0:Int)))=true)then(some ((rp B32 noQ.1,noQ.2),()))
 else(Option.bind (S.i_nat_gcd (nd B32 (dv a),(nd B32 (dv b),()))) (fun(y14:((List Int)×Unit))=>(Option.bind (S.i_natOf ((1:Int),())) (fun(y15:((List Int)×Unit))=>(Option.bind (S.i_nat_cmp (y14.1,(y15.1,()))) (fun(y16:(Int×Unit))=>(if((y16.1 != (0:Int))=true)then(some ((rp B32 noQ.1,noQ.2),()))
 else(some (((neg,(nd B32 (dv a),nd B32 (dv b))),true),()))))))))))))))=_
   rw[natOf_one,Option.bind_some]
   dsimp only
   rw[e1,Option.bind_some]
   dsimp only
   by_cases h1:1<dv b
   ·have hc:¬(cmpN (dv b) 1≤0):=by
     have:=(cmpN_gt (a:=dv b) (b:=1)).2 h1
     omega
    have lg:(nd B32 (Nat.gcd (dv a) (dv b))).length≤200:=Nat.le_trans (nd_shorter' B32_le (Nat.le_of_dvd (by omega) (Nat.gcd_dvd_right _ _))) lb
    have e3:S.i_nat_cmp (nd B32 (Nat.gcd (dv a) (dv b)),(nd B32 1,()))=some (cmpN (Nat.gcd (dv a) (dv b)) 1,()):=by
     unfold S.i_nat_cmp
     dsimp only
     rw[if_pos ⟨canon_nd B32_le _,canon_nd B32_le _,by omega⟩,dval_nd B32_le,dval_nd B32_le]
    rw[if_neg (by simpa using hc),e2,Option.bind_some,Option.bind_some]
    dsimp only
    rw[e3,Option.bind_some]
    dsimp only
    by_cases hg:Nat.gcd (dv a) (dv b)=1
    ·rw[if_neg (by simpa using cmpN_zero.2 hg),if_pos ⟨rfl,h1,hg⟩]
     rfl
    ·rw[if_pos (by simpa using fun q=>hg (cmpN_zero.1 q)),if_neg (fun q=>hg q.2.2)]
   ·have hc:cmpN (dv b) 1≤0:=by
     have h2:¬(cmpN (dv b) 1>0):=fun q=>h1 ((cmpN_gt (a:=dv b) (b:=1)).1 q)
     omega
    rw[if_pos (decide_eq_true hc),if_neg (fun q=>h1 q.2.1)]
theorem S.i_readRat_ok (x:(ByteArray×Unit)) (r:_) (h:S.i_readRat x=some r):∃k,P.i_readRat k x=some r:=by
 obtain⟨s,u⟩:=x
 unfold S.i_readRat at h
 dsimp only at h
 split at h
 case isFalse=>cases h
 rename_i hsz
 refine⟨0,?_⟩
 rw[←h]
 unfold P.i_readRat
 dsimp only
 have e0:S.strings_Cut (s,(bs [47],()))=some ((⟨(cutP 47 s.data.toList).1.toArray⟩,(⟨(cutP 47 s.data.toList).2.1.toArray⟩,(cutP 47 s.data.toList).2.2)),()):=by
  unfold S.strings_Cut
  dsimp only
  rw[if_pos hsz,show(bs [47]).data.toList=[47]from rfl,cut_cutP]
 have e1:∀l:List UInt8,S.strings_CutPrefix (⟨l.toArray⟩,(bs [45],()))=some ((⟨(if l.head? =some 45 then l.tail else l).toArray⟩,decide (l.head? =some 45)),()):=by
  intro l
  unfold S.strings_CutPrefix Go.Lib.trimPrefix Go.Lib.hasPrefix
  dsimp only
  rw[show(bs [45]).data.toList=[45]from rfl]
  cases l with
  |nil=>rfl
  |cons b r=>
   by_cases hb:b=45
   ·subst hb
    simp
   ·have hb':¬(45=b):=fun q=>hb q.symm
    have hp:([45].isPrefixOf (b::r))=false:=by
     show((45:UInt8)==b&&([]:List UInt8).isPrefixOf r)=false
     rw[show((45:UInt8)==b)=false from beq_eq_false_iff_ne.2 hb',Bool.false_and]
    have hh:¬((b::r).head? =some 45):=by simpa using hb
    rw[hp,if_neg (by decide),if_neg hh,decide_eq_false hh]
 rw[e0,Option.bind_some]
 dsimp only
 rw[e1,Option.bind_some]
 dsimp only
 generalize s.data.toList=l at*
 have hcut:∃(neg:Bool) (c:List UInt8×List UInt8×Bool),decide ((cutP 47 l).1.head? =some 45)=neg∧(if(cutP 47 l).1.head? =some 45 then(cutP 47 l).1.tail else(cutP 47 l).1)=c.1∧(cutP 47 l).2.1=c.2.1∧(cutP 47 l).2.2=c.2.2∧rdRat l=rdBody neg c:=by
  unfold rdRat
  cases l with
  |nil=>exact⟨false,cutP 47 [],rfl,rfl,rfl,rfl,rfl⟩
  |cons b r=>
   by_cases hb:b=45
   ·subst hb
    have hc:cutP 47 (45::r)=(45::(cutP 47 r).1,(cutP 47 r).2.1,(cutP 47 r).2.2):=by rw[cutP_cons,if_neg (by decide)]
    rw[hc]
    exact⟨true,cutP 47 r,rfl,rfl,rfl,rfl,rfl⟩
   ·have hh:¬((cutP 47 (b::r)).1.head? =some 45):=by
     rw[cutP_cons]
     split
     ·simp
     ·simpa using hb
    refine⟨false,cutP 47 (b::r),decide_eq_false hh,if_neg hh,rfl,rfl,?_⟩
    rw[if_neg (by simpa using hb)]
 obtain⟨neg,c,h1,h2,h3,h4,h5⟩:=hcut
 rw[h1,h2,h3,h4,h5]
 have e2:S.i_readNat (⟨c.1.toArray⟩,())=some (if okN c.1=true then(nd B32 (dv c.1),true)else([],false),()):=rfl
 rw[e2,Option.bind_some]
 cases hok:okN c.1
 ·have:rdBody neg c=noQ:=by
   unfold rdBody
   rw[if_neg (fun q=>by rw[hok]at q;cases q.1)]
  rw[this,←rr_bad]
  rfl
 ·rw[if_pos rfl]
  dsimp only
  rw[if_neg (show ¬((!true)=true) by decide)]
  have hz:(((nd B32 (dv c.1)).length:Int)==0)=decide (dv c.1=0):=by
   have:=canon_nil B32_le (canon_nd B32_le (dv c.1))
   rw[dval_nd B32_le]at this
   by_cases h0:dv c.1=0
   ·rw[this.2 h0,h0];rfl
   ·have hne:=fun q=>h0 (this.1 q)
    rw[decide_eq_false h0]
    simpa using hne
  cases neg
  ·rw[if_neg (by decide)]
   exact rr_rest false c hok (fun q=>by cases q.1)
  ·rw[if_pos rfl,hz]
   by_cases h0:dv c.1=0
   ·have:rdBody true c=noQ:=by
     unfold rdBody
     rw[if_neg (fun q=>q.2 ⟨rfl,h0⟩)]
    rw[if_pos (decide_eq_true h0),this,←rr_bad]
   ·rw[if_neg (by simpa using h0)]
    exact rr_rest true c hok (fun q=>h0 q.2)
abbrev P.i_rats_b0 (x1:(Int×(Int×((List ByteArray)×((List RB)×Unit))))) (g2:(Int×(Int×((List ByteArray)×((List RB)×Unit))))→Option (((List RB)×Bool)×Unit)):Option (((List RB)×Bool)×Unit):=
 (if((decide (x1.1<x1.2.1))=true)then(if((decide ((0:Int)≤x1.1))=true)then(if((decide (x1.1<((List.length x1.2.2.1):Int)))=true)then(Option.bind (S.i_readRat ((List.getD x1.2.2.1 (Int.toNat x1.1) (bs [])),())) (fun(y3:((RB×Bool)×Unit))=>(if((!y3.1.2)=true)then(some ((([]:List RB),false),()))
 else(if((decide ((((List.length x1.2.2.2.1)+(List.length ((y3.1.1.1,(y3.1.1.2.1,y3.1.1.2.2))::([]:List RB))))*(56:Nat))≤(140737488355328:Nat)))=true)then(g2 ((IntKind.wrap .i64 (x1.1+(1:Int))),(x1.2.1,(x1.2.2.1,((x1.2.2.2.1++((y3.1.1.1,(y3.1.1.2.1,y3.1.1.2.2))::([]:List RB))),())))))
 else none))))
 else none)
 else none)
 else(some ((x1.2.2.2.1,true),())))
def P.i_rats (k:Nat) (x:((List ByteArray)×Unit)):(Option (((List RB)×Bool)×Unit)):=
 (if((decide (((List.length x.1):Int)>(300:Int)))=true)then(some ((([]:List RB),false),()))
 else(loopP (X:=(Int×(Int×((List ByteArray)×((List RB)×Unit))))) (R:=(((List RB)×Bool)×Unit)) (P.i_rats_b0) k ((0:Int),(((List.length x.1):Int),(x.1,(([]:List RB),()))))))
open Classical in
def S.i_rats (x:((List ByteArray)×Unit)):(Option (((List RB)×Bool)×Unit)):=if okT x.1=true then some (((rdAll x.1).1.map (rp B32),(rdAll x.1).2),())else none
theorem i_rats_read (s:ByteArray) (h:s.size≤1000000):S.i_readRat (s,())=some ((rp B32 (rdRat s.data.toList).1,(rdRat s.data.toList).2),()):=by
 unfold S.i_readRat
 exact if_pos (by dsimp only;omega)
theorem S.i_rats_ok (x:((List ByteArray)×Unit)) (r:_) (h:S.i_rats x=some r):∃k,P.i_rats k x=some r:=by
 obtain⟨ls,u⟩:=x
 unfold S.i_rats at h
 dsimp only at h
 split at h
 case isFalse=>cases h
 rename_i hc
 cases h
 refine⟨ls.length+1,?_⟩
 unfold P.i_rats rdAll
 dsimp only
 by_cases hl:(ls.length:Int)>300
 ·rw[if_pos (decide_eq_true hl),if_neg (show ¬(ls.length≤300∧(ls.all fun s=>(rdRat s.data.toList).2)=true)from fun z=>by omega)]
  rfl
 rw[if_neg (by simpa using hl)]
 have key:=loop_up0 (k:=ls.length+1) (b:=P.i_rats_b0) (n:=ls.length) (st:=fun i=>((i:Int),(ls.length:Int),ls,(ls.take i).map (fun s=>rp B32 (rdRat s.data.toList).1),())) (F:=fun i=>some (if((ls.drop i).all fun s=>(rdRat s.data.toList).2)=true then(ls.map (fun s=>rp B32 (rdRat s.data.toList).1),true)else([],false),())) (fun i g hi hg=>by
  unfold P.i_rats_b0
  dsimp only at hg ⊢
  have e1:(i:Int)<(ls.length:Int):=by omega
  have e2:(0:Int)≤(i:Int):=by omega
  simp only[e1,e2,decide_true,if_true]
  rw[getD_cast ls i _ hi,i_rats_read _ (okT_get hc hi),Option.bind_some,List.drop_eq_getElem_cons hi,List.all_cons]
  dsimp only
  cases hf:(rdRat ls[i].data.toList).2
  ·rw[if_pos (by rfl),if_neg (by simp)]
  ·rw[if_neg (by simp),wr (by omega) (by omega),Bool.true_and,←hg]
   have e3:((List.map (fun s:ByteArray=>rp B32 (rdRat s.data.toList).1) (ls.take i)).length+1)*56≤140737488355328:=by
    rw[List.length_map,List.length_take]
    omega
   simp only[List.length_cons,List.length_nil,Nat.zero_add]
   rw[if_pos (decide_eq_true e3),List.take_add_one,List.getElem?_eq_getElem hi,Option.toList_some,List.map_append]
   rfl) (fun g=>by
  unfold P.i_rats_b0
  dsimp only
  rw[if_neg (by simp),List.take_length,List.drop_length]
  rfl) (by omega)
 refine key.trans ?_
 rw[List.drop_zero]
 by_cases ha:(ls.all fun s=>(rdRat s.data.toList).2)=true
 ·rw[if_pos ha,if_pos (show ls.length≤300∧(ls.all fun s=>(rdRat s.data.toList).2)=true from⟨by omega,ha⟩),List.map_map]
  rfl
 ·rw[if_neg ha,if_neg (fun z=>ha z.2)]
  rfl
abbrev P.i_nat_sub_b0 (x1:(Int×(Int×((List Int)×(Int×((List Int)×((List Int)×Unit))))))) (g2:(Int×(Int×((List Int)×(Int×((List Int)×((List Int)×Unit))))))→Option ((List Int)×Unit)):Option ((List Int)×Unit):=
 (if((decide (x1.1<x1.2.1))=true)then(if((decide ((0:Int)≤x1.1))=true)then(if((decide (x1.1<((List.length x1.2.2.1):Int)))=true)then(if((decide (x1.1<((List.length x1.2.2.2.2.1):Int)))=true)then(if((decide ((0:Int)≤x1.1))=true)then(if((decide (x1.1<((List.length x1.2.2.2.2.1):Int)))=true)then(if((decide ((IntKind.wrap .i64 ((IntKind.wrap .i64 ((IntKind.wrap .i64 (List.getD x1.2.2.1 (Int.toNat x1.1) (0:Int))) - x1.2.2.2.1)) - (IntKind.wrap .i64 (List.getD x1.2.2.2.2.1 (Int.toNat x1.1) (0:Int)))))<(0:Int)))=true)then(if((decide ((0:Int)≤x1.1))=true)then(if((decide (x1.1<((List.length x1.2.2.2.2.2.1):Int)))=true)then(g2 ((IntKind.wrap .i64 (x1.1+(1:Int))),(x1.2.1,(x1.2.2.1,((1:Int),(x1.2.2.2.2.1,((List.set x1.2.2.2.2.2.1 ((0:Nat)+(Int.toNat x1.1)) (IntKind.wrap .u32 (IntKind.wrap .i64 ((IntKind.wrap .i64 ((IntKind.wrap .i64 (List.getD x1.2.2.1 (Int.toNat x1.1) (0:Int))) - x1.2.2.2.1)) - (IntKind.wrap .i64 (List.getD x1.2.2.2.2.1 (Int.toNat x1.1) (0:Int))))))),())))))))
 else none)
 else none)
 else(if((decide ((0:Int)≤x1.1))=true)then(if((decide (x1.1<((List.length x1.2.2.2.2.2.1):Int)))=true)then(g2 ((IntKind.wrap .i64 (x1.1+(1:Int))),(x1.2.1,(x1.2.2.1,((0:Int),(x1.2.2.2.2.1,((List.set x1.2.2.2.2.2.1 ((0:Nat)+(Int.toNat x1.1)) (IntKind.wrap .u32 (IntKind.wrap .i64 ((IntKind.wrap .i64 ((IntKind.wrap .i64 (List.getD x1.2.2.1 (Int.toNat x1.1) (0:Int))) - x1.2.2.2.1)) - (IntKind.wrap .i64 (List.getD x1.2.2.2.2.1 (Int.toNat x1.1) (0:Int))))))),())))))))
 else none)
 else none))
 else none)
 else none)
 else(if((decide ((IntKind.wrap .i64 ((IntKind.wrap .i64 (List.getD x1.2.2.1 (Int.toNat x1.1) (0:Int))) - x1.2.2.2.1))<(0:Int)))=true)then(if((decide ((0:Int)≤x1.1))=true)then(if((decide (x1.1<((List.length x1.2.2.2.2.2.1):Int)))=true)then(g2 ((IntKind.wrap .i64 (x1.1+(1:Int))),(x1.2.1,(x1.2.2.1,((1:Int),(x1.2.2.2.2.1,((List.set x1.2.2.2.2.2.1 ((0:Nat)+(Int.toNat x1.1)) (IntKind.wrap .u32 (IntKind.wrap .i64 ((IntKind.wrap .i64 (List.getD x1.2.2.1 (Int.toNat x1.1) (0:Int))) - x1.2.2.2.1)))),())))))))
 else none)
 else none)
 else(if((decide ((0:Int)≤x1.1))=true)then(if((decide (x1.1<((List.length x1.2.2.2.2.2.1):Int)))=true)then(g2 ((IntKind.wrap .i64 (x1.1+(1:Int))),(x1.2.1,(x1.2.2.1,((0:Int),(x1.2.2.2.2.1,((List.set x1.2.2.2.2.2.1 ((0:Nat)+(Int.toNat x1.1)) (IntKind.wrap .u32 (IntKind.wrap .i64 ((IntKind.wrap .i64 (List.getD x1.2.2.1 (Int.toNat x1.1) (0:Int))) - x1.2.2.2.1)))),())))))))
 else none)
 else none)))
 else none)
 else none)
 else(Option.bind (S.i_nat_trim (x1.2.2.2.2.2.1,())) (fun(y3:((List Int)×Unit))=>(some (y3.1,())))))
def P.i_nat_sub (k:Nat) (x:((List Int)×((List Int)×Unit))):(Option ((List Int)×Unit)):=
 (if((decide ((0:Int)≤((List.length x.1):Int)))=true)then(if((decide (((List.length x.1):Int)≤((List.length x.1):Int)))=true)then(if((decide ((((List.length x.1):Int)*(4:Int))≤(281474976710656:Int)))=true)then(loopP (X:=(Int×(Int×((List Int)×(Int×((List Int)×((List Int)×Unit))))))) (R:=((List Int)×Unit)) (P.i_nat_sub_b0) k ((0:Int),(((List.length x.1):Int),(x.1,((0:Int),(x.2.1,((List.replicate (Int.toNat ((List.length x.1):Int)) (0:Int)),())))))))
 else none)
 else none)
 else none)
def S.i_nat_sub (x:((List Int)×((List Int)×Unit))):(Option ((List Int)×Unit)):=if dig B32 x.1=true∧dig B32 x.2.1=true∧x.2.1.length≤x.1.length∧dval B32 x.2.1≤dval B32 x.1∧x.1.length≤10000000000 then some (nd B32 (dval B32 x.1 - dval B32 x.2.1),())else none
theorem S.i_nat_sub_ok (x:((List Int)×((List Int)×Unit))) (r:_) (h:S.i_nat_sub x=some r):∃k,P.i_nat_sub k x=some r:=by
 obtain⟨xs,ys,u⟩:=x
 unfold S.i_nat_sub at h
 dsimp only at h
 split at h
 case isFalse=>cases h
 rename_i hc
 obtain⟨dx,dy,hl,hv,lx⟩:=hc
 cases h
 refine⟨xs.length+1,?_⟩
 unfold P.i_nat_sub
 dsimp only
 have a1:(0:Int)≤(xs.length:Int):=by omega
 have a2:(xs.length:Int)*4≤281474976710656:=by omega
 simp only[a1,a2,decide_true,if_true,Int.le_refl,Int.toNat_natCast]
 have key:=loop_up0 (k:=xs.length+1) (b:=P.i_nat_sub_b0) (n:=xs.length) (st:=fun i=>((i:Int),(xs.length:Int),xs,((takeUp B32 1 xs ys i).2.2:Int),ys,(takeUp B32 1 xs ys i).1++List.replicate (xs.length - i) 0,())) (F:=fun i=>some (nd B32 (dval B32 xs - dval B32 ys),())) (fun i g hi hg=>by
  unfold P.i_nat_sub_b0
  dsimp only at hg ⊢
  refine Eq.trans ?_ hg
  clear hg
  obtain⟨q1,q2,q3,q4,q5⟩:=takeUp_ok (t:=1) B32_le dx dy i
  have gx:=dig_getD (B:=B32) (by decide) dx i
  have gy:=dig_getD (B:=B32) (by decide) dy i
  have gx1:xs.getD i 0<4294967296:=gx.2
  have gy1:ys.getD i 0<4294967296:=gy.2
  have gx0:=gx.1
  have gy0:=gy.1
  have hlen:((takeUp B32 1 xs ys i).1++List.replicate (xs.length - i) (0:Int)).length=xs.length:=by rw[List.length_append,q2,List.length_replicate];omega
  have e1:(i:Int)<(xs.length:Int):=by omega
  have e2:(0:Int)≤(i:Int):=by omega
  rw[hlen]
  simp only[e1,e2,decide_true,if_true,Nat.zero_add,Int.toNat_natCast]
  have hrep:List.replicate (xs.length - i) (0:Int)=0::List.replicate (xs.length - (i+1)) 0:=by
   rw[show xs.length - i=(xs.length - (i+1))+1 by omega,List.replicate_succ]
  rw[hrep]
  simp only[mid_set q2]
  rw[(takeUp_one B32_le (xs:=xs) dy i).2]
  dsimp only
  have y0:¬((i:Int)<(ys.length:Int))→ys.getD i 0=0:=by
   intro hj
   rw[List.getD_eq_getElem?_getD,List.getElem?_eq_none (by omega)]
   rfl
  generalize (takeUp B32 1 xs ys i).1=pl at*
  generalize (takeUp B32 1 xs ys i).2.2=l0 at*
  obtain⟨x,hx⟩:∃x,xs.getD i 0=x:=⟨_,rfl⟩
  obtain⟨y,hy⟩:∃y,ys.getD i 0=y:=⟨_,rfl⟩
  simp only[hx,hy]at gx1 gx0 gy1 gy0 y0 ⊢
  have hB:((B32:Nat):Int)=4294967296:=rfl
  rw[wr (x:=(i:Int)+1) (by omega) (by omega),wr (x:=x) (by omega) (by omega),wr (x:=x - (l0:Int)) (by omega) (by omega),hB]
  by_cases hj:(i:Int)<(ys.length:Int)
  ·rw[if_pos (decide_eq_true hj),if_pos (decide_eq_true hj),wr (x:=y) (by omega) (by omega),wr (x:=x - (l0:Int) - y) (by omega) (by omega),u32_emod,show x - (l0:Int) - y=x - y - (l0:Int) by omega]
   by_cases hn:x - y - (l0:Int)<0
   ·rw[if_pos (decide_eq_true hn),if_pos hn]
    rfl
   ·rw[if_neg (by simpa using hn),if_neg hn]
    rfl
  ·have hy0:=y0 hj
   subst hy0
   rw[if_neg (by simpa using hj),u32_emod,show x - 0 - (l0:Int)=x - (l0:Int) by omega]
   by_cases hn:x - (l0:Int)<0
   ·rw[if_pos (decide_eq_true hn),if_pos hn]
    rfl
   ·rw[if_neg (by simpa using hn),if_neg hn]
    rfl) (fun g=>by
  unfold P.i_nat_sub_b0
  dsimp only
  rw[if_neg (by simp),Nat.sub_self,show List.replicate 0 (0:Int)=[]from rfl,List.append_nil,takeUp_fd B32_le dx dy hl hv]
  unfold S.i_nat_trim
  dsimp only
  have hb:=dval_lt dx
  rw[if_pos ⟨dig_fd (by decide) _ _,by rw[fd_len];omega⟩,Option.bind_some,nd_fd B32_le (by omega)]) (by omega)
 exact key
def P.i_lowest (k:Nat) (x:(Bool×((List Int)×((List Int)×Unit)))):(Option (RB×Unit)):=
 (if((((List.length x.2.1):Int)==(0:Int))=true)then(Option.bind (S.i_natOf ((1:Int),())) (fun(y0:((List Int)×Unit))=>(some ((false,(([]:List Int),y0.1)),()))))
 else(Option.bind (S.i_nat_gcd (x.2.1,(x.2.2.1,()))) (fun(y1:((List Int)×Unit))=>(if((((List.length y1.1):Int)==(1:Int))=true)then(if((decide ((0:Int)<((List.length y1.1):Int)))=true)then(if(((List.getD y1.1 (0:Nat) (0:Int))==(1:Int))=true)then(some ((x.1,(x.2.1,x.2.2.1)),()))
 else(Option.bind (S.i_nat_div (x.2.1,(y1.1,()))) (fun(y2:(((List Int)×(List Int))×Unit))=>(Option.bind (S.i_nat_div (x.2.2.1,(y1.1,()))) (fun(y3:(((List Int)×(List Int))×Unit))=>(some ((x.1,(y2.1.1,y3.1.1)),())))))))
 else none)
 else(Option.bind (S.i_nat_div (x.2.1,(y1.1,()))) (fun(y4:(((List Int)×(List Int))×Unit))=>(Option.bind (S.i_nat_div (x.2.2.1,(y1.1,()))) (fun(y5:(((List Int)×(List Int))×Unit))=>(some ((x.1,(y4.1.1,y5.1.1)),()))))))))))
def S.i_lowest (x:(Bool×((List Int)×((List Int)×Unit)))):(Option (RB×Unit)):=if canon B32 x.2.1=true∧canon B32 x.2.2.1=true∧x.2.2.1≠ []∧x.2.1.length≤100000000∧x.2.2.1.length≤100000000 then some (rp B32 (lowN x.1 (dval B32 x.2.1) (dval B32 x.2.2.1)),())else none
theorem S.i_lowest_ok (x:(Bool×((List Int)×((List Int)×Unit)))) (r:_) (h:S.i_lowest x=some r):∃k,P.i_lowest k x=some r:=by
 obtain⟨neg,as,bs',u⟩:=x
 unfold S.i_lowest at h
 dsimp only at h
 split at h
 case isFalse=>cases h
 rename_i hc
 obtain⟨ca,cb,hne,la,lb⟩:=hc
 cases h
 refine⟨0,?_⟩
 unfold P.i_lowest
 dsimp only
 have hb0:dval B32 bs'≠0:=fun e=>hne ((canon_nil B32_le cb).2 e)
 by_cases ha:as=[]
 ·subst ha
  rw[if_pos (by rfl)]
  unfold S.i_natOf lowN rp
  dsimp only
  rw[if_pos ⟨by decide,by decide⟩,Option.bind_some,show dval B32 []=0 from rfl,Nat.gcd_zero_left,Nat.zero_div,Nat.div_self (by omega),nd_zero B32_le]
  simp
 ·have ha0:dval B32 as≠0:=fun e=>ha ((canon_nil B32_le ca).2 e)
  rw[if_neg (by simpa using ha)]
  have hg:=gcd_len B32_le ca cb hb0
  have hgp:0<Nat.gcd (dval B32 as) (dval B32 bs'):=Nat.gcd_pos_of_pos_right _ (by omega)
  have e1:S.i_nat_gcd (as,(bs',()))=some (nd B32 (Nat.gcd (dval B32 as) (dval B32 bs')),()):=by
   unfold S.i_nat_gcd
   exact if_pos ⟨ca,cb,la,lb⟩
  rw[e1,Option.bind_some]
  dsimp only
  unfold lowN rp
  dsimp only
  rw[decide_eq_true ha0,Bool.and_true]
  have hgne:nd B32 (Nat.gcd (dval B32 as) (dval B32 bs'))≠ []:=by
   rw[nd_pos B32_le (by omega)]
   simp
  have hgd:dval B32 (nd B32 (Nat.gcd (dval B32 as) (dval B32 bs')))=Nat.gcd (dval B32 as) (dval B32 bs'):=dval_nd B32_le _
  have hgc:canon B32 (nd B32 (Nat.gcd (dval B32 as) (dval B32 bs')))=true:=canon_nd B32_le _
  have e2:∀xs,canon B32 xs=true→xs.length≤100000000→S.i_nat_div (xs,(nd B32 (Nat.gcd (dval B32 as) (dval B32 bs')),()))=some ((nd B32 (dval B32 xs/Nat.gcd (dval B32 as) (dval B32 bs')),nd B32 (dval B32 xs%Nat.gcd (dval B32 as) (dval B32 bs'))),()):=by
   intro xs cx lx
   unfold S.i_nat_div
   dsimp only
   rw[if_pos ⟨cx,hgc,hgne,lx,by omega⟩,hgd]
  rw[e2 as ca la,Option.bind_some,e2 bs' cb lb,Option.bind_some]
  dsimp only
  have hone:nd B32 (Nat.gcd (dval B32 as) (dval B32 bs'))=[1]→as=nd B32 (dval B32 as/Nat.gcd (dval B32 as) (dval B32 bs'))∧bs'=nd B32 (dval B32 bs'/Nat.gcd (dval B32 as) (dval B32 bs')):=by
   intro e
   rw[e,dval_one]at hgd
   rw[←hgd,Nat.div_one,Nat.div_one,canon_eq ca,canon_eq cb]
   exact⟨rfl,rfl⟩
  generalize hgl:nd B32 (Nat.gcd (dval B32 as) (dval B32 bs'))=gl at*
  by_cases h1:gl.length=1
  ·have d1:(((gl.length:Nat):Int)==(1:Int))=true:=by simp [h1]
   have d2:(0:Int)<(gl.length:Int):=by omega
   rw[if_pos d1,if_pos (decide_eq_true d2)]
   obtain⟨g0,rfl⟩:∃g0,gl=[g0]:=by
    match gl,h1 with
    | [g0],_=>exact⟨g0,rfl⟩
   by_cases h2:g0=1
   ·subst h2
    rw[if_pos (by rfl),←(hone rfl).1,←(hone rfl).2]
   ·rw[if_neg (by simpa using h2)]
  ·have d1:¬(((gl.length:Nat):Int)==(1:Int))=true:=by simp;omega
   rw[if_neg d1]
def P.i_rat_add (k:Nat) (x:(RB×(RB×Unit))):(Option (RB×Unit)):=
 (Option.bind (S.i_rat_sign ((x.1.1,(x.1.2.1,x.1.2.2)),())) (fun(y0:(Int×Unit))=>(if((y0.1==(0:Int))=true)then(some ((x.2.1.1,(x.2.1.2.1,x.2.1.2.2)),()))
 else(Option.bind (S.i_rat_sign ((x.2.1.1,(x.2.1.2.1,x.2.1.2.2)),())) (fun(y1:(Int×Unit))=>(if((y1.1==(0:Int))=true)then(some ((x.1.1,(x.1.2.1,x.1.2.2)),()))
 else(Option.bind (S.i_nat_cmp (x.1.2.2,(x.2.1.2.2,()))) (fun(y2:(Int×Unit))=>(if((y2.1 != (0:Int))=true)then(Option.bind (S.i_nat_mul (x.1.2.1,(x.2.1.2.2,()))) (fun(y3:((List Int)×Unit))=>(Option.bind (S.i_nat_mul (x.2.1.2.1,(x.1.2.2,()))) (fun(y4:((List Int)×Unit))=>(Option.bind (S.i_nat_mul (x.1.2.2,(x.2.1.2.2,()))) (fun(y5:((List Int)×Unit))=>(if((x.1.1==x.2.1.1)=true)then(Option.bind (S.i_nat_add (y3.1,(y4.1,()))) (fun(y6:((List Int)×Unit))=>(Option.bind (S.i_lowest (x.1.1,(y6.1,(y5.1,())))) (fun(y7:(RB×Unit))=>(some ((y7.1.1,(y7.1.2.1,y7.1.2.2)),()))))))
 else(Option.bind (S.i_nat_cmp (y3.1,(y4.1,()))) (fun(y8:(Int×Unit))=>(if((decide (y8.1≥(0:Int)))=true)then(Option.bind (S.i_nat_sub (y3.1,(y4.1,()))) (fun(y9:((List Int)×Unit))=>(Option.bind (S.i_lowest (x.1.1,(y9.1,(y5.1,())))) (fun(y10:(RB×Unit))=>(some ((y10.1.1,(y10.1.2.1,y10.1.2.2)),()))))))
 else(Option.bind (S.i_nat_sub (y4.1,(y3.1,()))) (fun(y11:((List Int)×Unit))=>(Option.bind (S.i_lowest (x.2.1.1,(y11.1,(y5.1,())))) (fun(y12:(RB×Unit))=>(some ((y12.1.1,(y12.1.2.1,y12.1.2.2)),()))))))))))))))))
 else(if((x.1.1==x.2.1.1)=true)then(Option.bind (S.i_nat_add (x.1.2.1,(x.2.1.2.1,()))) (fun(y13:((List Int)×Unit))=>(Option.bind (S.i_lowest (x.1.1,(y13.1,(x.1.2.2,())))) (fun(y14:(RB×Unit))=>(some ((y14.1.1,(y14.1.2.1,y14.1.2.2)),()))))))
 else(Option.bind (S.i_nat_cmp (x.1.2.1,(x.2.1.2.1,()))) (fun(y15:(Int×Unit))=>(if((decide (y15.1≥(0:Int)))=true)then(Option.bind (S.i_nat_sub (x.1.2.1,(x.2.1.2.1,()))) (fun(y16:((List Int)×Unit))=>(Option.bind (S.i_lowest (x.1.1,(y16.1,(x.1.2.2,())))) (fun(y17:(RB×Unit))=>(some ((y17.1.1,(y17.1.2.1,y17.1.2.2)),()))))))
 else(Option.bind (S.i_nat_sub (x.2.1.2.1,(x.1.2.1,()))) (fun(y18:((List Int)×Unit))=>(Option.bind (S.i_lowest (x.2.1.1,(y18.1,(x.1.2.2,())))) (fun(y19:(RB×Unit))=>(some ((y19.1.1,(y19.1.2.1,y19.1.2.2)),())))))))))))))))))))
theorem ra_mul (p q:Nat) (hp:(nd B32 p).length≤100000000) (hq:(nd B32 q).length≤100000000):S.i_nat_mul (nd B32 p,(nd B32 q,()))=some (nd B32 (p*q),()):=by
 unfold S.i_nat_mul
 dsimp only
 rw[if_pos ⟨dig_nd B32_le _,dig_nd B32_le _,by omega,by omega⟩,dval_nd B32_le,dval_nd B32_le]
theorem ra_add (p q:Nat) (hp:(nd B32 p).length≤100000000) (hq:(nd B32 q).length≤100000000):S.i_nat_add (nd B32 p,(nd B32 q,()))=some (nd B32 (p+q),()):=by
 unfold S.i_nat_add
 dsimp only
 rw[if_pos ⟨dig_nd B32_le _,dig_nd B32_le _,by omega,by omega⟩,dval_nd B32_le,dval_nd B32_le]
theorem ra_sub (p q:Nat) (hp:(nd B32 p).length≤100000000) (h:q≤p):S.i_nat_sub (nd B32 p,(nd B32 q,()))=some (nd B32 (p - q),()):=by
 unfold S.i_nat_sub
 dsimp only
 rw[dval_nd B32_le,dval_nd B32_le,if_pos ⟨dig_nd B32_le _,dig_nd B32_le _,nd_shorter' B32_le h,h,by omega⟩]
theorem ra_cmp (p q:Nat) (hp:(nd B32 p).length≤100000000):S.i_nat_cmp (nd B32 p,(nd B32 q,()))=some (cmpN p q,()):=by
 unfold S.i_nat_cmp
 dsimp only
 rw[if_pos ⟨canon_nd B32_le _,canon_nd B32_le _,by omega⟩,dval_nd B32_le,dval_nd B32_le]
theorem ra_low (n:Bool) (p q:Nat) (hp:(nd B32 p).length≤100000000) (hq:(nd B32 q).length≤100000000) (h0:q≠0):S.i_lowest (n,(nd B32 p,(nd B32 q,())))=some (rp B32 (lowN n p q),()):=by
 unfold S.i_lowest
 dsimp only
 rw[if_pos ⟨canon_nd B32_le _,canon_nd B32_le _,nd_ne B32_le h0,by omega,by omega⟩,dval_nd B32_le,dval_nd B32_le]
theorem ra_sign (n:Bool) (p:Nat) (bs:List Int):S.i_rat_sign ((n,(nd B32 p,bs)),())=some (sgnQ n p,()):=by
 unfold S.i_rat_sign
 dsimp only
 rw[if_pos (canon_nd B32_le _),dval_nd B32_le]
def S.i_rat_add (x:(RB×(RB×Unit))):(Option (RB×Unit)):=if lowb B32 10000000 x.1=true∧lowb B32 10000000 x.2.1=true then some (rp B32 (addQ (rv B32 x.1) (rv B32 x.2.1)),())else none
theorem S.i_rat_add_ok (x:(RB×(RB×Unit))) (r:_) (h:S.i_rat_add x=some r):∃k,P.i_rat_add k x=some r:=by
 obtain⟨x,y,u⟩:=x
 unfold S.i_rat_add at h
 dsimp only at h
 split at h
 case isFalse=>cases h
 rename_i hc
 obtain⟨hx,hy⟩:=hc
 cases h
 rw[lowb_iff]at hx hy
 obtain⟨hx,lx⟩:=hx
 obtain⟨hy,ly⟩:=hy
 obtain⟨n1,p1,q1,rfl,x1,x2⟩:=rok_nd hx
 obtain⟨n2,p2,q2,rfl,y1,y2⟩:=rok_nd hy
 rw[rv_nd B32_le]at lx ly ⊢
 rw[rv_nd B32_le]
 have hq1:q1≠0:=by have:0<q1:=lx.1;omega
 have hq2:q2≠0:=by have:0<q2:=ly.1;omega
 refine⟨0,?_⟩
 unfold P.i_rat_add
 dsimp only
 rw[ra_sign,Option.bind_some]
 dsimp only
 by_cases h1:p1=0
 ·rw[if_pos (by simpa using sgnQ_zero.2 h1),addQ_zero_left _ _ lx ly h1]
  rfl
 ·rw[if_neg (by simpa using fun q=>h1 (sgnQ_zero.1 q)),ra_sign,Option.bind_some]
  dsimp only
  by_cases h2:p2=0
  ·rw[if_pos (by simpa using sgnQ_zero.2 h2),addQ_zero_right _ _ lx ly h2]
   rfl
  ·rw[if_neg (by simpa using fun q=>h2 (sgnQ_zero.1 q)),ra_cmp q1 q2 (by omega),Option.bind_some]
   dsimp only
   have m1:=nd_mul_len B32_le p1 q2
   have m2:=nd_mul_len B32_le p2 q1
   have m3:=nd_mul_len B32_le q1 q2
   by_cases hq:q1=q2
   ·rw[if_neg (by simpa using cmpN_zero.2 hq),addQ_same _ _ lx hq]
    dsimp only
    have a1:=nd_add_len B32_le p1 p2
    have a2:=nd_sub_len B32_le p1 p2
    have a3:=nd_sub_len B32_le p2 p1
    by_cases hn:n1=n2
    ·rw[if_pos (by simpa using hn),if_pos hn,ra_add p1 p2 (by omega) (by omega),Option.bind_some,ra_low n1 _ q1 (by omega) (by omega) hq1,Option.bind_some]
    ·rw[if_neg (by simpa using hn),if_neg hn,ra_cmp p1 p2 (by omega),Option.bind_some]
     dsimp only
     have hlt:=cmpN_lt (a:=p1) (b:=p2)
     by_cases hle:p2≤p1
     ·have hge:cmpN p1 p2≥0:=by omega
      rw[if_pos (decide_eq_true hge),if_pos hle,ra_sub p1 p2 (by omega) hle,Option.bind_some,ra_low n1 _ q1 (by omega) (by omega) hq1,Option.bind_some]
     ·have hge:¬cmpN p1 p2≥0:=by omega
      rw[if_neg (by simpa using hge),if_neg hle,ra_sub p2 p1 (by omega) (by omega),Option.bind_some,ra_low n2 _ q1 (by omega) (by omega) hq1,Option.bind_some]
   ·have hq0:q1*q2≠0:=Nat.mul_ne_zero hq1 hq2
    rw[if_pos (by simpa using fun q=>hq (cmpN_zero.1 q)),ra_mul p1 q2 (by omega) (by omega),Option.bind_some,ra_mul p2 q1 (by omega) (by omega),Option.bind_some,ra_mul q1 q2 (by omega) (by omega),Option.bind_some]
    dsimp only
    unfold addQ
    dsimp only
    have a1:=nd_add_len B32_le (p1*q2) (p2*q1)
    have a2:=nd_sub_len B32_le (p1*q2) (p2*q1)
    have a3:=nd_sub_len B32_le (p2*q1) (p1*q2)
    by_cases hn:n1=n2
    ·rw[if_pos (by simpa using hn),if_pos hn,ra_add _ _ (by omega) (by omega),Option.bind_some,ra_low n1 _ _ (by omega) (by omega) hq0,Option.bind_some]
    ·rw[if_neg (by simpa using hn),if_neg hn,ra_cmp _ _ (by omega),Option.bind_some]
     dsimp only
     have hlt:=cmpN_lt (a:=p1*q2) (b:=p2*q1)
     by_cases hle:p2*q1≤p1*q2
     ·have hge:cmpN (p1*q2) (p2*q1)≥0:=by
       rcases Int.lt_or_le (cmpN (p1*q2) (p2*q1)) 0 with g|g
       ·have:=hlt.1 g
        omega
       ·exact g
      rw[if_pos (decide_eq_true hge),if_pos hle,ra_sub _ _ (by omega) hle,Option.bind_some,ra_low n1 _ _ (by omega) (by omega) hq0,Option.bind_some]
     ·have hge:¬cmpN (p1*q2) (p2*q1)≥0:=by
       have:=hlt.2 (Nat.lt_of_not_le hle)
       omega
      rw[if_neg (by simpa using hge),if_neg hle,ra_sub _ _ (by omega) (Nat.le_of_lt (Nat.lt_of_not_le hle)),Option.bind_some,ra_low n2 _ _ (by omega) (by omega) hq0,Option.bind_some]
theorem ri_add {x y:Q3} {m n:Nat} (hx:low x) (bx:below m x) (hy:low y) (bY:below n y) (hm:m≤80000000) (hn:n≤80000000):S.i_rat_add (rp B32 x,(rp B32 y,()))=some (rp B32 (addQ x y),()):=by
 unfold S.i_rat_add
 dsimp only
 rw[if_pos ⟨lowb_rp9 (by decide) hx bx (by omega),lowb_rp9 (by decide) hy bY (by omega)⟩,rv_rp B32_le,rv_rp B32_le]
abbrev P.i_sum_b1 (x2:(Int×(Int×((List RB)×(RB×(RB×Unit)))))) (g3:(Int×(Int×((List RB)×(RB×(RB×Unit)))))→Option (RB×Unit)):Option (RB×Unit):=
 (if((decide (x2.1<x2.2.1))=true)then(if((decide ((0:Int)≤x2.1))=true)then(if((decide (x2.1<((List.length x2.2.2.1):Int)))=true)then(Option.bind (S.i_rat_add ((x2.2.2.2.1.1,(x2.2.2.2.1.2.1,x2.2.2.2.1.2.2)),(((List.getD x2.2.2.1 (Int.toNat x2.1) (false,(([]:List Int),([]:List Int)))).1,((List.getD x2.2.2.1 (Int.toNat x2.1) (false,(([]:List Int),([]:List Int)))).2.1,(List.getD x2.2.2.1 (Int.toNat x2.1) (false,(([]:List Int),([]:List Int)))).2.2)),()))) (fun(y4:(RB×Unit))=>(g3 ((IntKind.wrap .i64 (x2.1+(1:Int))),(x2.2.1,(x2.2.2.1,((y4.1.1,(y4.1.2.1,y4.1.2.2)),((x2.2.2.2.2.1.1,(x2.2.2.2.2.1.2.1,x2.2.2.2.2.1.2.2)),()))))))))
 else none)
 else none)
 else(some ((x2.2.2.2.1.1,(x2.2.2.2.1.2.1,x2.2.2.2.1.2.2)),())))
def P.i_sum (k:Nat) (x:((List RB)×Unit)):(Option (RB×Unit)):=
 (Option.bind (S.i_whole ((0:Int),())) (fun(y0:(RB×Unit))=>(loopP (X:=(Int×(Int×((List RB)×(RB×(RB×Unit)))))) (R:=(RB×Unit)) (P.i_sum_b1) k ((0:Int),(((List.length x.1):Int),(x.1,((y0.1.1,(y0.1.2.1,y0.1.2.2)),((false,(([]:List Int),([]:List Int))),()))))))))
open Classical in
def S.i_sum (x:((List RB)×Unit)):(Option (RB×Unit)):=if goodL B32 x.1 then some (rp B32 (sumQ (x.1.map (rv B32))),())else none
theorem i_sum_add (a b:Q3) (ha:lowb B32 10000000 (rp B32 a)=true) (hb:lowb B32 10000000 (rp B32 b)=true):S.i_rat_add (rp B32 a,(rp B32 b,()))=some (rp B32 (addQ a b),()):=by
 unfold S.i_rat_add
 dsimp only
 rw[if_pos ⟨ha,hb⟩,rv_rp B32_le,rv_rp B32_le]
theorem S.i_sum_ok (x:((List RB)×Unit)) (r:_) (h:S.i_sum x=some r):∃k,P.i_sum k x=some r:=by
 obtain⟨xs,u⟩:=x
 unfold S.i_sum at h
 dsimp only at h
 split at h
 case isFalse=>cases h
 rename_i hc
 obtain⟨qs,n,rfl,hg⟩:=hc
 cases h
 have hlen:=good_len hg
 refine⟨qs.length+1,?_⟩
 unfold P.i_sum
 have hz:S.i_whole (0,())=some (rp B32 zeroQ,()):=by rfl
 dsimp only
 rw[hz,Option.bind_some,map_rv B32_le,List.length_map]
 have key:=loop_up0 (k:=qs.length+1) (b:=P.i_sum_b1) (n:=qs.length) (st:=fun i=>((i:Int),(qs.length:Int),qs.map (rp B32),rp B32 (sumQ (qs.take i)),(false,(([]:List Int),([]:List Int))),())) (F:=fun i=>some (rp B32 (sumQ qs),())) (fun i g hi hg'=>by
  unfold P.i_sum_b1
  dsimp only at hg' ⊢
  have e1:(i:Int)<(qs.length:Int):=by omega
  have e2:(0:Int)≤(i:Int):=by omega
  have e3:(i:Int)<((qs.map (rp B32)).length:Int):=by rw[List.length_map];omega
  rw[if_pos (decide_eq_true e1),if_pos (decide_eq_true e2),if_pos (decide_eq_true e3),getD_cast (qs.map (rp B32)) i _ (by rw[List.length_map];exact hi),List.getElem_map]
  have ea:=i_sum_add (sumQ (qs.take i)) qs[i] (good_step (by decide) hg i) (good_get (by decide) hg hi)
  rw[sumQ_take hi]at ea
  show Option.bind (S.i_rat_add (rp B32 (sumQ (qs.take i)),(rp B32 qs[i],()))) _=_
  rw[ea,Option.bind_some,wr (by omega) (by omega)]
  exact hg') (fun g=>by
  unfold P.i_sum_b1
  dsimp only
  rw[if_neg (by simp),List.take_length]) (by omega)
 exact key
def P.i_isMinus (k:Nat) (x:(RB×Unit)):(Option (Bool×Unit)):=
 (Option.bind (S.i_rat_sign ((x.1.1,(x.1.2.1,x.1.2.2)),())) (fun(y0:(Int×Unit))=>(some ((decide (y0.1<(0:Int))),()))))
def S.i_isMinus (x:(RB×Unit)):(Option (Bool×Unit)):=if lowb B32 10000000 x.1=true then some (x.1.1,())else none
theorem S.i_isMinus_ok (x:(RB×Unit)) (r:_) (h:S.i_isMinus x=some r):∃k,P.i_isMinus k x=some r:=by
 obtain⟨x,u⟩:=x
 unfold S.i_isMinus at h
 dsimp only at h
 split at h
 case isFalse=>cases h
 rename_i hc
 obtain⟨hr,hl⟩:=lowb_iff.1 hc
 obtain⟨n,p,q,rfl,l1,l2⟩:=rok_nd hr
 rw[rv_nd B32_le]at hl
 cases h
 refine⟨0,?_⟩
 unfold P.i_isMinus S.i_rat_sign
 dsimp only
 rw[if_pos (canon_nd B32_le _),dval_nd B32_le,Option.bind_some]
 dsimp only
 have h2:=hl.2.1
 dsimp only at h2
 unfold sgnQ
 cases n
 ·by_cases hp:p=0
  ·rw[if_pos hp]
   rfl
  ·rw[if_neg hp]
   rfl
 ·rw[if_neg (h2 rfl)]
  rfl
abbrev P.slices_IndexFunc__i_rat_i_rat_b0 (x1:(Int×(Int×(Unit×((List RB)×Unit))))) (g2:(Int×(Int×(Unit×((List RB)×Unit))))→Option (Int×Unit)):Option (Int×Unit):=
 (if((decide (x1.1<x1.2.1))=true)then(if((decide ((0:Int)≤x1.1))=true)then(if((decide (x1.1<((List.length x1.2.2.2.1):Int)))=true)then(Option.bind (S.i_isMinus (((List.getD x1.2.2.2.1 (Int.toNat x1.1) (false,(([]:List Int),([]:List Int)))).1,((List.getD x1.2.2.2.1 (Int.toNat x1.1) (false,(([]:List Int),([]:List Int)))).2.1,(List.getD x1.2.2.2.1 (Int.toNat x1.1) (false,(([]:List Int),([]:List Int)))).2.2)),())) (fun(y3:(Bool×Unit))=>(if(y3.1=true)then(some (x1.1,()))
 else(g2 ((IntKind.wrap .i64 (x1.1+(1:Int))),(x1.2.1,((),(x1.2.2.2.1,()))))))))
 else none)
 else none)
 else(some ((-1:Int),())))
def P.slices_IndexFunc__i_rat_i_rat (k:Nat) (x:((List RB)×(Unit×Unit))):(Option (Int×Unit)):=
 (loopP (X:=(Int×(Int×(Unit×((List RB)×Unit))))) (R:=(Int×Unit)) (P.slices_IndexFunc__i_rat_i_rat_b0) k ((0:Int),(((List.length x.1):Int),((),(x.1,())))))
open Classical in
def S.slices_IndexFunc__i_rat_i_rat (x:((List RB)×(Unit×Unit))):(Option (Int×Unit)):=if goodL B32 x.1 then some (ixM x.1,())else none
theorem S.slices_IndexFunc__i_rat_i_rat_ok (x:((List RB)×(Unit×Unit))) (r:_) (h:S.slices_IndexFunc__i_rat_i_rat x=some r):∃k,P.slices_IndexFunc__i_rat_i_rat k x=some r:=by
 obtain⟨xs,u,u'⟩:=x
 unfold S.slices_IndexFunc__i_rat_i_rat at h
 dsimp only at h
 split at h
 case isFalse=>cases h
 rename_i hc
 obtain⟨qs,n,rfl,hg⟩:=hc
 cases h
 have hlen:=good_len hg
 refine⟨qs.length+1,?_⟩
 unfold P.slices_IndexFunc__i_rat_i_rat
 dsimp only
 have hm:∀i (hi:i<qs.length),S.i_isMinus (rp B32 qs[i],())=some (qs[i].1,()):=by
  intro i hi
  unfold S.i_isMinus
  dsimp only
  rw[if_pos (good_get (by decide) hg hi)]
  rfl
 have key:=loop_up0 (k:=qs.length+1) (b:=P.slices_IndexFunc__i_rat_i_rat_b0) (n:=qs.length) (st:=fun i=>((i:Int),(qs.length:Int),(),qs.map (rp B32),())) (F:=fun i=>some (if ixM ((qs.drop i).map (rp B32))<0 then -1 else ixM ((qs.drop i).map (rp B32))+i,())) (fun i g hi hg'=>by
  unfold P.slices_IndexFunc__i_rat_i_rat_b0
  dsimp only at hg' ⊢
  have e1:(i:Int)<(qs.length:Int):=by omega
  have e2:(0:Int)≤(i:Int):=by omega
  have e3:(i:Int)<((qs.map (rp B32)).length:Int):=by rw[List.length_map];omega
  rw[if_pos (decide_eq_true e1),if_pos (decide_eq_true e2),if_pos (decide_eq_true e3),getD_cast (qs.map (rp B32)) i _ (by rw[List.length_map];exact hi),List.getElem_map]
  show Option.bind (S.i_isMinus (rp B32 qs[i],())) _=_
  rw[hm i hi,Option.bind_some,List.drop_eq_getElem_cons hi,List.map_cons,ixM_cons]
  dsimp only
  rw[show(rp B32 qs[i]).1=qs[i].1 from rfl]
  cases hf:qs[i].1
  ·simp only[Bool.false_eq_true,if_false]
   rw[wr (by omega) (by omega)]
   refine hg'.trans ?_
   congr 2
   split
   ·rfl
   ·rw[if_neg (by omega)]
    omega
  ·simp) (fun g=>by
  unfold P.slices_IndexFunc__i_rat_i_rat_b0
  dsimp only
  rw[if_neg (by simp),List.drop_length]
  rfl) (by omega)
 rw[List.length_map]
 refine key.trans ?_
 rw[List.drop_zero]
 congr 2
 have hr: -1≤ixM (qs.map (rp B32)):=by
  generalize qs.map (rp B32)=zs
  induction zs with
  |nil=>decide
  |cons z zs ih=>
   rw[ixM_cons]
   split
   ·omega
   ·split<;>omega
 split<;>omega
def P.slices_ContainsFunc__i_rat_i_rat (k:Nat) (x:((List RB)×(Unit×Unit))):(Option (Bool×Unit)):=
 (Option.bind (S.slices_IndexFunc__i_rat_i_rat (x.1,((),()))) (fun(y0:(Int×Unit))=>(some ((decide (y0.1≥(0:Int))),()))))
open Classical in
def S.slices_ContainsFunc__i_rat_i_rat (x:((List RB)×(Unit×Unit))):(Option (Bool×Unit)):=if goodL B32 x.1 then some (x.1.any fun r=>r.1,())else none
theorem S.slices_ContainsFunc__i_rat_i_rat_ok (x:((List RB)×(Unit×Unit))) (r:_) (h:S.slices_ContainsFunc__i_rat_i_rat x=some r):∃k,P.slices_ContainsFunc__i_rat_i_rat k x=some r:=by
 obtain⟨xs,u,u'⟩:=x
 unfold S.slices_ContainsFunc__i_rat_i_rat at h
 dsimp only at h
 split at h
 case isFalse=>cases h
 rename_i hc
 cases h
 refine⟨0,?_⟩
 unfold P.slices_ContainsFunc__i_rat_i_rat S.slices_IndexFunc__i_rat_i_rat
 dsimp only
 rw[if_pos hc,Option.bind_some,←ixM_any]
def P.i_notPlus (k:Nat) (x:(RB×Unit)):(Option (Bool×Unit)):=
 (Option.bind (S.i_rat_sign ((x.1.1,(x.1.2.1,x.1.2.2)),())) (fun(y0:(Int×Unit))=>(some ((decide (y0.1≤(0:Int))),()))))
def S.i_notPlus (x:(RB×Unit)):(Option (Bool×Unit)):=if rok B32 10000000 x.1=true then some (!posQ (rv B32 x.1),())else none
theorem S.i_notPlus_ok (x:(RB×Unit)) (r:_) (h:S.i_notPlus x=some r):∃k,P.i_notPlus k x=some r:=by
 obtain⟨y,u⟩:=x
 unfold S.i_notPlus at h
 dsimp only at h
 split at h
 case isFalse=>cases h
 rename_i hc
 cases h
 obtain⟨n,p,q,rfl,_,_⟩:=rok_nd hc
 refine⟨0,?_⟩
 unfold P.i_notPlus
 dsimp only
 have hs:S.i_rat_sign ((n,(nd B32 p,nd B32 q)),())=some (sgnQ n p,()):=by
  unfold S.i_rat_sign
  dsimp only
  rw[if_pos (canon_nd B32_le _),dval_nd B32_le]
 rw[hs,Option.bind_some,rv_nd B32_le]
 dsimp only
 rw[←sgnQ_npos]
abbrev P.slices_IndexFunc__i_rat_i_ratP_b0 (x1:(Int×(Int×(Unit×((List RB)×Unit))))) (g2:(Int×(Int×(Unit×((List RB)×Unit))))→Option (Int×Unit)):Option (Int×Unit):=
 (if((decide (x1.1<x1.2.1))=true)then(if((decide ((0:Int)≤x1.1))=true)then(if((decide (x1.1<((List.length x1.2.2.2.1):Int)))=true)then(Option.bind (S.i_notPlus (((List.getD x1.2.2.2.1 (Int.toNat x1.1) (false,(([]:List Int),([]:List Int)))).1,((List.getD x1.2.2.2.1 (Int.toNat x1.1) (false,(([]:List Int),([]:List Int)))).2.1,(List.getD x1.2.2.2.1 (Int.toNat x1.1) (false,(([]:List Int),([]:List Int)))).2.2)),())) (fun(y3:(Bool×Unit))=>(if(y3.1=true)then(some (x1.1,()))
 else(g2 ((IntKind.wrap .i64 (x1.1+(1:Int))),(x1.2.1,((),(x1.2.2.2.1,()))))))))
 else none)
 else none)
 else(some ((-1:Int),())))
def P.slices_IndexFunc__i_rat_i_ratP (k:Nat) (x:((List RB)×(Unit×Unit))):(Option (Int×Unit)):=
 (loopP (X:=(Int×(Int×(Unit×((List RB)×Unit))))) (R:=(Int×Unit)) (P.slices_IndexFunc__i_rat_i_ratP_b0) k ((0:Int),(((List.length x.1):Int),((),(x.1,())))))
open Classical in
def S.slices_IndexFunc__i_rat_i_ratP (x:((List RB)×(Unit×Unit))):(Option (Int×Unit)):=if goodL B32 x.1 then some (ixF (fun r=> !posQ r) (x.1.map (rv B32)),())else none
theorem S.slices_IndexFunc__i_rat_i_ratP_ok (x:((List RB)×(Unit×Unit))) (r:_) (h:S.slices_IndexFunc__i_rat_i_ratP x=some r):∃k,P.slices_IndexFunc__i_rat_i_ratP k x=some r:=by
 obtain⟨xs,u,u'⟩:=x
 unfold S.slices_IndexFunc__i_rat_i_ratP at h
 dsimp only at h
 split at h
 case isFalse=>cases h
 rename_i hc
 cases h
 obtain⟨qs,n,rfl,hg⟩:=hc
 have hlen:=good_len hg
 refine⟨qs.length+1,?_⟩
 unfold P.slices_IndexFunc__i_rat_i_ratP
 dsimp only
 have hm:∀i (hi:i<qs.length),S.i_notPlus (rp B32 qs[i],())=some (!posQ qs[i],()):=by
  intro i hi
  unfold S.i_notPlus
  dsimp only
  rw[if_pos (lowb_iff.1 (good_get (by decide) hg hi)).1,rv_rp B32_le]
 have key:=loop_up0 (k:=qs.length+1) (b:=P.slices_IndexFunc__i_rat_i_ratP_b0) (n:=qs.length) (st:=fun i=>((i:Int),(qs.length:Int),(),qs.map (rp B32),())) (F:=fun i=>some (if ixF (fun r=> !posQ r) (qs.drop i)<0 then -1 else ixF (fun r=> !posQ r) (qs.drop i)+i,())) (fun i g hi hg'=>by
  unfold P.slices_IndexFunc__i_rat_i_ratP_b0
  dsimp only at hg' ⊢
  have e1:(i:Int)<(qs.length:Int):=by omega
  have e2:(0:Int)≤(i:Int):=by omega
  have e3:(i:Int)<((qs.map (rp B32)).length:Int):=by rw[List.length_map];omega
  rw[if_pos (decide_eq_true e1),if_pos (decide_eq_true e2),if_pos (decide_eq_true e3),getD_cast (qs.map (rp B32)) i _ (by rw[List.length_map];exact hi),List.getElem_map]
  show Option.bind (S.i_notPlus (rp B32 qs[i],())) _=_
  rw[hm i hi,Option.bind_some,List.drop_eq_getElem_cons hi,ixF_cons]
  dsimp only
  cases hf: !posQ qs[i]
  ·simp only[Bool.false_eq_true,if_false]
   rw[wr (by omega) (by omega)]
   refine hg'.trans ?_
   congr 2
   have:=ixF_ge (fun r=> !posQ r) (qs.drop (i+1))
   split
   ·rfl
   ·rw[if_neg (by omega)]
    omega
  ·simp) (fun g=>by
  unfold P.slices_IndexFunc__i_rat_i_ratP_b0
  dsimp only
  rw[if_neg (by simp),List.drop_length]
  rfl) (by omega)
 rw[List.length_map,map_rv B32_le]
 refine key.trans ?_
 rw[List.drop_zero]
 congr 2
 have hr:=ixF_ge (fun r=> !posQ r) qs
 split<;>omega
def P.slices_ContainsFunc__i_rat_i_ratP (k:Nat) (x:((List RB)×(Unit×Unit))):(Option (Bool×Unit)):=
 (Option.bind (S.slices_IndexFunc__i_rat_i_ratP (x.1,((),()))) (fun(y0:(Int×Unit))=>(some ((decide (y0.1≥(0:Int))),()))))
open Classical in
def S.slices_ContainsFunc__i_rat_i_ratP (x:((List RB)×(Unit×Unit))):(Option (Bool×Unit)):=if goodL B32 x.1 then some (!ratesB (x.1.map (rv B32)),())else none
theorem S.slices_ContainsFunc__i_rat_i_ratP_ok (x:((List RB)×(Unit×Unit))) (r:_) (h:S.slices_ContainsFunc__i_rat_i_ratP x=some r):∃k,P.slices_ContainsFunc__i_rat_i_ratP k x=some r:=by
 obtain⟨xs,u,u'⟩:=x
 unfold S.slices_ContainsFunc__i_rat_i_ratP at h
 dsimp only at h
 split at h
 case isFalse=>cases h
 rename_i hc
 cases h
 refine⟨0,?_⟩
 unfold P.slices_ContainsFunc__i_rat_i_ratP S.slices_IndexFunc__i_rat_i_ratP
 dsimp only
 rw[if_pos hc,Option.bind_some,←not_ratesB,←ixF_any]
def P.i_weightsOf (k:Nat) (x:((List ByteArray)×Unit)):(Option (((List RB)×Bool)×Unit)):=
 (Option.bind (S.i_rats (x.1,())) (fun(y0:(((List RB)×Bool)×Unit))=>(if((!y0.1.2)=true)then(some ((([]:List RB),false),()))
 else(Option.bind (S.slices_ContainsFunc__i_rat_i_rat (y0.1.1,((),()))) (fun(y1:(Bool×Unit))=>(if(y1.1=true)then(some ((([]:List RB),false),()))
 else(Option.bind (S.i_sum (y0.1.1,())) (fun(y2:(RB×Unit))=>(Option.bind (S.i_rat_isOne ((y2.1.1,(y2.1.2.1,y2.1.2.2)),())) (fun(y3:(Bool×Unit))=>(if((!y3.1)=true)then(some ((([]:List RB),false),()))
 else(some ((y0.1.1,true),())))))))))))))
def S.i_weightsOf (x:((List ByteArray)×Unit)):(Option (((List RB)×Bool)×Unit)):=if okT x.1=true then some (((wtAll x.1).1.map (rp B32),(wtAll x.1).2),())else none
theorem S.i_weightsOf_ok (x:((List ByteArray)×Unit)) (r:_) (h:S.i_weightsOf x=some r):∃k,P.i_weightsOf k x=some r:=by
 obtain⟨ls,u⟩:=x
 unfold S.i_weightsOf at h
 dsimp only at h
 split at h
 case isFalse=>cases h
 rename_i hc
 cases h
 refine⟨0,?_⟩
 unfold P.i_weightsOf S.i_rats
 dsimp only
 rw[if_pos hc,Option.bind_some]
 dsimp only
 unfold wtAll
 have hg:=rdAll_good (ls:=ls)
 have hL:=rdAll_goodL (B:=B32) (ls:=ls)
 cases hf:(rdAll ls).2
 ·rfl
 have hg':=hg hf
 have hL':=hL hf
 rw[if_neg (by decide)]
 have ea:S.slices_ContainsFunc__i_rat_i_rat ((rdAll ls).1.map (rp B32),(),())=some ((rdAll ls).1.any fun r=>r.1,()):=by
  unfold S.slices_ContainsFunc__i_rat_i_rat
  dsimp only
  rw[if_pos hL',any_rp]
 have es:S.i_sum ((rdAll ls).1.map (rp B32),())=some (rp B32 (sumQ (rdAll ls).1),()):=by
  unfold S.i_sum
  dsimp only
  rw[if_pos hL',map_rv B32_le]
 have eo:S.i_rat_isOne (rp B32 (sumQ (rdAll ls).1),())=some (isOneQ (sumQ (rdAll ls).1),()):=by
  unfold S.i_rat_isOne
  dsimp only
  rw[rv_rp B32_le,if_pos ⟨good_rok (by decide) hg',low_qok (good_sum hg').1⟩]
 rw[ea,Option.bind_some]
 dsimp only
 unfold isW
 cases hm:((rdAll ls).1.any fun r=>r.1)
 ·rw[if_neg (by decide),es,Option.bind_some]
  show Option.bind (S.i_rat_isOne (rp B32 (sumQ (rdAll ls).1),())) _=_
  rw[eo,Option.bind_some]
  cases ho:isOneQ (sumQ (rdAll ls).1)
  ·rfl
  ·simp [hf]
 ·rfl
abbrev P.i_chainOf_b0 (x1:(Int×(Int×((List (List ByteArray))×((List (List ByteArray))×((List (List RB))×Unit)))))) (g2:(Int×(Int×((List (List ByteArray))×((List (List ByteArray))×((List (List RB))×Unit)))))→Option (((List (List RB))×Bool)×Unit)):Option (((List (List RB))×Bool)×Unit):=
 (if((decide (x1.1<x1.2.1))=true)then(if((decide ((0:Int)≤x1.1))=true)then(if((decide (x1.1<((List.length x1.2.2.1):Int)))=true)then(Option.bind (S.i_weightsOf ((List.getD x1.2.2.1 (Int.toNat x1.1) ([]:List ByteArray)),())) (fun(y3:(((List RB)×Bool)×Unit))=>(if((!y3.1.2)=true)then(some ((([]:List (List RB)),false),()))
 else(if((((List.length y3.1.1):Int) != ((List.length x1.2.2.2.1):Int))=true)then(some ((([]:List (List RB)),false),()))
 else(if((decide ((((List.length x1.2.2.2.2.1)+(List.length (y3.1.1::([]:List (List RB)))))*(24:Nat))≤(140737488355328:Nat)))=true)then(g2 ((IntKind.wrap .i64 (x1.1+(1:Int))),(x1.2.1,(x1.2.2.1,(x1.2.2.2.1,((x1.2.2.2.2.1++(y3.1.1::([]:List (List RB)))),()))))))
 else none)))))
 else none)
 else none)
 else(some ((x1.2.2.2.2.1,true),())))
def P.i_chainOf (k:Nat) (x:((List (List ByteArray))×Unit)):(Option (((List (List RB))×Bool)×Unit)):=
 (if((decide (((List.length x.1):Int)<(1:Int)))=true)then(some ((([]:List (List RB)),false),()))
 else(if((decide (((List.length x.1):Int)>(12:Int)))=true)then(some ((([]:List (List RB)),false),()))
 else(loopP (X:=(Int×(Int×((List (List ByteArray))×((List (List ByteArray))×((List (List RB))×Unit)))))) (R:=(((List (List RB))×Bool)×Unit)) (P.i_chainOf_b0) k ((0:Int),(((List.length x.1):Int),(x.1,(x.1,(([]:List (List RB)),()))))))))
def S.i_chainOf (x:((List (List ByteArray))×Unit)):(Option (((List (List RB))×Bool)×Unit)):=if x.1.all okT=true then some (((chQ x.1).1.map (fun r=>r.map (rp B32)),(chQ x.1).2),())else none
theorem S.i_chainOf_ok (x:((List (List ByteArray))×Unit)) (r:_) (h:S.i_chainOf x=some r):∃k,P.i_chainOf k x=some r:=by
 obtain⟨rows,u⟩:=x
 unfold S.i_chainOf at h
 dsimp only at h
 split at h
 case isFalse=>cases h
 rename_i hc
 cases h
 refine⟨rows.length+1,?_⟩
 unfold P.i_chainOf chQ
 dsimp only
 by_cases h1:1≤rows.length
 case neg=>
  rw[if_pos (decide_eq_true (show(rows.length:Int)<1 by omega)),decide_eq_false h1]
  rfl
 rw[if_neg (by simpa using(show ¬(rows.length:Int)<1 by omega)),decide_eq_true h1]
 by_cases h2:rows.length≤12
 case neg=>
  rw[if_pos (decide_eq_true (show(rows.length:Int)>12 by omega)),decide_eq_false h2]
  rfl
 rw[if_neg (by simpa using(show ¬(rows.length:Int)>12 by omega)),decide_eq_true h2]
 simp only[Bool.true_and]
 have key:=loop_up0 (k:=rows.length+1) (b:=P.i_chainOf_b0) (n:=rows.length) (st:=fun i=>((i:Int),(rows.length:Int),rows,rows,(rows.take i).map (fun r=>(rdAll r).1.map (rp B32)),())) (F:=fun i=>some (if((rows.drop i).all fun r=>decide (r.length=rows.length)&&(wtAll r).2)=true then(rows.map (fun r=>(rdAll r).1.map (rp B32)),true)else([],false),())) (fun i g hi hg'=>by
  have e1:(i:Int)<(rows.length:Int):=by omega
  have e2:(0:Int)≤(i:Int):=by omega
  have hr:okT rows[i]=true:=List.all_eq_true.1 hc _ (List.getElem_mem hi)
  have e4:(((rows.take i).map (fun r=>(rdAll r).1.map (rp B32))).length+1)*24≤140737488355328:=by
   rw[List.length_map,List.length_take]
   omega
  unfold P.i_chainOf_b0
  dsimp only at hg' ⊢
  simp only[e1,e2,decide_true,if_true]
  rw[getD_cast rows i _ hi,List.drop_eq_getElem_cons hi,List.all_cons]
  have ew:S.i_weightsOf (rows[i],())=some (((wtAll rows[i]).1.map (rp B32),(wtAll rows[i]).2),()):=by
   unfold S.i_weightsOf
   exact if_pos hr
  rw[ew,Option.bind_some]
  dsimp only
  cases hw:(wtAll rows[i]).2
  ·rw[if_pos (by decide),Bool.and_false,Bool.false_and,if_neg (by decide)]
  obtain⟨w1,w2,w3⟩:=wtAll_ok hw
  have w4:=(rdAll_ok w1).1
  rw[if_neg (by decide),w3,List.length_map,w4,Bool.and_true]
  by_cases hl:rows[i].length=rows.length
  case neg=>
   rw[if_pos (by simp;omega),decide_eq_false hl,Bool.false_and,if_neg (by decide)]
  rw[if_neg (by simp;omega),decide_eq_true hl,Bool.true_and]
  simp only[List.length_cons,List.length_nil,Nat.zero_add]
  rw[if_pos (decide_eq_true e4),wr (by omega) (by omega),←hg',List.take_add_one,List.getElem?_eq_getElem hi,Option.toList_some,List.map_append]
  rfl) (fun g=>by
  unfold P.i_chainOf_b0
  dsimp only
  rw[if_neg (by simp),List.take_length,List.drop_length]
  rfl) (by omega)
 rw[List.drop_zero]at key
 refine Eq.trans key ?_
 by_cases ha:(rows.all fun r=>decide (r.length=rows.length)&&(wtAll r).2)=true
 ·rw[if_pos ha,if_pos ha,List.map_map]
  rfl
 ·rw[if_neg ha,if_neg ha]
  rfl
abbrev P.i_reach_b3 (g2:(((List Int)×((List (List RB))×((List Bool)×Unit)))→(Option ((List Bool)×Unit)))) (x4:(Int×(Int×((List RB)×((List Bool)×((List Int)×((List (List RB))×Unit))))))) (g5:(Int×(Int×((List RB)×((List Bool)×((List Int)×((List (List RB))×Unit))))))→Option ((List Bool)×Unit)):Option ((List Bool)×Unit):=
 (if((decide (x4.1<x4.2.1))=true)then(if((decide ((0:Int)≤x4.1))=true)then(if((decide (x4.1<((List.length x4.2.2.1):Int)))=true)then(Option.bind (S.i_rat_sign (((List.getD x4.2.2.1 (Int.toNat x4.1) (false,(([]:List Int),([]:List Int)))).1,((List.getD x4.2.2.1 (Int.toNat x4.1) (false,(([]:List Int),([]:List Int)))).2.1,(List.getD x4.2.2.1 (Int.toNat x4.1) (false,(([]:List Int),([]:List Int)))).2.2)),())) (fun(y6:(Int×Unit))=>(if((decide (y6.1>(0:Int)))=true)then(if((decide ((0:Int)≤x4.1))=true)then(if((decide (x4.1<((List.length x4.2.2.2.1):Int)))=true)then(if((!(List.getD x4.2.2.2.1 ((0:Nat)+(Int.toNat x4.1)) false))=true)then(if((decide ((0:Int)≤x4.1))=true)then(if((decide (x4.1<((List.length x4.2.2.2.1):Int)))=true)then(if((decide ((((List.length x4.2.2.2.2.1)+(List.length (x4.1::([]:List Int))))*(8:Nat))≤(140737488355328:Nat)))=true)then(g5 ((IntKind.wrap .i64 (x4.1+(1:Int))),(x4.2.1,(x4.2.2.1,((List.set x4.2.2.2.1 ((0:Nat)+(Int.toNat x4.1)) true),((x4.2.2.2.2.1++(x4.1::([]:List Int))),(x4.2.2.2.2.2.1,())))))))
 else none)
 else none)
 else none)
 else(g5 ((IntKind.wrap .i64 (x4.1+(1:Int))),(x4.2.1,(x4.2.2.1,(x4.2.2.2.1,(x4.2.2.2.2.1,(x4.2.2.2.2.2.1,()))))))))
 else none)
 else none)
 else(g5 ((IntKind.wrap .i64 (x4.1+(1:Int))),(x4.2.1,(x4.2.2.1,(x4.2.2.2.1,(x4.2.2.2.2.1,(x4.2.2.2.2.2.1,()))))))))))
 else none)
 else none)
 else(if((decide ((0:Int)≤((List.length x4.2.2.2.2.1):Int)))=true)then(if((decide ((((List.length x4.2.2.2.2.1):Int)+(0:Int))≤((List.length x4.2.2.2.2.1):Int)))=true)then(if((decide ((1:Int)≤((List.length x4.2.2.2.2.1):Int)))=true)then(g2 ((seen x4.2.2.2.2.1 (1:Nat) ((Int.toNat ((List.length x4.2.2.2.2.1):Int)) - (1:Nat))),(x4.2.2.2.2.2.1,(x4.2.2.2.1,()))))
 else none)
 else none)
 else none))
abbrev P.i_reach_b0 (k:Nat) (x1:((List Int)×((List (List RB))×((List Bool)×Unit)))) (g2:((List Int)×((List (List RB))×((List Bool)×Unit)))→Option ((List Bool)×Unit)):Option ((List Bool)×Unit):=
 (if((decide (((List.length x1.1):Int)>(0:Int)))=true)then(if((decide ((0:Int)<((List.length x1.1):Int)))=true)then(if((decide ((0:Int)≤(List.getD x1.1 (0:Nat) (0:Int))))=true)then(if((decide ((List.getD x1.1 (0:Nat) (0:Int))<((List.length x1.2.1):Int)))=true)then(loopP (X:=(Int×(Int×((List RB)×((List Bool)×((List Int)×((List (List RB))×Unit))))))) (R:=((List Bool)×Unit)) (P.i_reach_b3 g2) k ((0:Int),(((List.length (List.getD x1.2.1 (Int.toNat (List.getD x1.1 (0:Nat) (0:Int))) ([]:List RB))):Int),((List.getD x1.2.1 (Int.toNat (List.getD x1.1 (0:Nat) (0:Int))) ([]:List RB)),(x1.2.2.1,(x1.1,(x1.2.1,())))))))
 else none)
 else none)
 else none)
 else(some (x1.2.2.1,())))
def P.i_reach (k:Nat) (x:((List (List RB))×(Int×Unit))):(Option ((List Bool)×Unit)):=
 (if((decide ((0:Int)≤((List.length x.1):Int)))=true)then(if((decide (((List.length x.1):Int)≤((List.length x.1):Int)))=true)then(if((decide ((((List.length x.1):Int)*(1:Int))≤(281474976710656:Int)))=true)then(if((decide ((0:Int)≤x.2.1))=true)then(if((decide (x.2.1<((List.length (List.replicate (Int.toNat ((List.length x.1):Int)) false)):Int)))=true)then(loopP (X:=((List Int)×((List (List RB))×((List Bool)×Unit)))) (R:=((List Bool)×Unit)) (P.i_reach_b0 k) k ((x.2.1::([]:List Int)),(x.1,((List.set (List.replicate (Int.toNat ((List.length x.1):Int)) false) ((0:Nat)+(Int.toNat x.2.1)) true),()))))
 else none)
 else none)
 else none)
 else none)
 else none)
theorem sign_rp (q:Q3):S.i_rat_sign (((rp B32 q).1,(rp B32 q).2.1,(rp B32 q).2.2),())=some (sgnQ q.1 q.2.1,()):=by
 unfold S.i_rat_sign rp
 dsimp only
 rw[if_pos (canon_nd (by decide) _),dval_nd (by decide)]
theorem reI_inner {M:List (List Q3)} (hM:isM M) {i:Nat} (hi:i<M.length) {sn:List Bool} {td:List Nat} (hb:Bok M.length (sn,td)) (hm:td.length+sn.count false≤1000000)
  (g:(((List Int)×((List (List RB))×((List Bool)×Unit)))→(Option ((List Bool)×Unit)))) {K:Nat} (hK:M.length<K):
  loopP (P.i_reach_b3 g) K ((0:Int),(M.length:Int),(M.getD i []).map (rp B32),sn,zs (i::td),mp B32 M,())=g (zs (scanB (adj M i) M.length (sn,td)).2,mp B32 M,(scanB (adj M i) M.length (sn,td)).1,()):=by
 have hrow:=isM_row hM hi
 have hn:=hM.1
 have key:=loop_up0 (k:=K) (b:=P.i_reach_b3 g) (n:=M.length) (st:=fun j=>((j:Int),(M.length:Int),(M.getD i []).map (rp B32),((List.range j).foldl (stepB (adj M i)) (sn,td)).1,zs (i::((List.range j).foldl (stepB (adj M i)) (sn,td)).2),mp B32 M,())) (F:=fun _=>g (zs (scanB (adj M i) M.length (sn,td)).2,mp B32 M,(scanB (adj M i) M.length (sn,td)).1,())) (fun j g' hj hg=>by
  unfold P.i_reach_b3
  dsimp only at hg ⊢
  obtain⟨b1,b2⟩:=foldB_ok (a:=adj M i) hb j (by omega)
  rw[fold_succ]at hg
  generalize (List.range j).foldl (stepB (adj M i)) (sn,td)=s at b1 b2 hg ⊢
  have b3:s.2.length≤td.length+sn.count false:=by
   dsimp only at b2
   omega
  have e1:(j:Int)<(M.length:Int):=by omega
  have e2:(0:Int)≤(j:Int):=by omega
  have e3:(((M.getD i []).map (rp B32)).length:Int)=(M.length:Int):=by rw[List.length_map,hrow.1]
  have e4:(zs (i::s.2)).length=s.2.length+1:=by simp [zs]
  have e5:(s.2.length+1+1)*8≤140737488355328:=by omega
  have e6:(s.1.length:Int)=(M.length:Int):=by rw[b1.len]
  rw[Int.toNat_natCast,getD_rp B32 (by rw[hrow.1];exact hj),sign_rp,Option.bind_some]
  simp only[e1,e2,e3,e4,e5,e6,decide_true,if_true,List.length_cons,List.length_nil,Nat.zero_add]
  rw[sgnQ_pos,posQ_adj hM hi hj,wr (by omega) (by omega)]
  unfold stepB at hg
  cases ha:adj M i j
  ·rw[ha,if_neg (by simp)]at hg
   rw[if_neg (by decide)]
   exact hg
  ·rw[if_pos rfl]
   cases hs:s.1.getD j false
   ·rw[ha,hs,if_pos ⟨rfl,rfl⟩]at hg
    rw[if_pos (by decide),←hg]
    simp [zs]
   ·rw[ha,hs,if_neg (by simp)]at hg
    rw[if_neg (by decide)]
    exact hg) (fun g'=>by
  unfold P.i_reach_b3
  dsimp only
  change _=g (zs (scanB (adj M i) M.length (sn,td)).2,mp B32 M,(scanB (adj M i) M.length (sn,td)).1,())
  rw[show(List.range M.length).foldl (stepB (adj M i)) (sn,td)=scanB (adj M i) M.length (sn,td)from rfl]
  generalize scanB (adj M i) M.length (sn,td)=s
  have e4:(zs (i::s.2)).length=s.2.length+1:=by simp [zs]
  have e5:(0:Int)≤((s.2.length+1:Nat):Int):=by omega
  have e6:((s.2.length+1:Nat):Int)+0≤((s.2.length+1:Nat):Int):=by omega
  have e7:(1:Int)≤((s.2.length+1:Nat):Int):=by omega
  rw[if_neg (by simp)]
  simp only[e4,e5,e6,e7,decide_true,if_true,Int.toNat_natCast]
  have e8:seen (zs (i::s.2)) 1 (s.2.length+1 - 1)=zs s.2:=by
   show(zs s.2).take (s.2.length+1 - 1)=zs s.2
   exact List.take_of_length_le (by rw[zs_len];omega)
  rw[e8]) hK
 exact key
theorem reI_outer {M:List (List Q3)} (hM:isM M) {K:Nat} (hK:M.length<K):∀(f k:Nat) (sn:List Bool) (td:List Nat),Bok M.length (sn,td)→td.length+sn.count false≤f→f<k→f≤1000000→loopP (P.i_reach_b0 K) k (zs td,mp B32 M,sn,())=some (bfs (adj M) M.length f sn td,()):=by
 intro f
 induction f with
 |zero=>
  intro k sn td hb hm hk hf
  cases k with
  |zero=>omega
  |succ k=>
   have:td=[]:=List.eq_nil_of_length_eq_zero (by omega)
   subst this
   rw[loopP_succ]
   rfl
 |succ f ih=>
  intro k sn td hb hm hk hf
  cases k with
  |zero=>omega
  |succ k=>
   rw[loopP_succ]
   cases td with
   |nil=>rfl
   |cons i r=>
    have hi:i<M.length:=hb.lt i (List.mem_cons_self ..)
    have hb':Bok M.length (sn,r):=⟨hb.len,fun t ht=>hb.lt t (List.mem_cons_of_mem _ ht)⟩
    have hm':r.length+sn.count false≤f:=by
     rw[List.length_cons]at hm
     omega
    unfold P.i_reach_b0
    dsimp only
    have e1:((zs (i::r)).length:Int)>0:=by rw[zs_len,List.length_cons];omega
    have e2:(zs (i::r)).getD 0 0=(i:Int):=rfl
    have e3:(0:Int)≤(i:Int):=by omega
    have e4:(i:Int)<((mp B32 M).length:Int):=by rw[mp_len];omega
    rw[e2]
    simp only[e1,e3,e4,decide_true,if_true,Int.toNat_natCast]
    rw[mp_at hi,List.length_map,(isM_row hM hi).1,reI_inner hM hi hb' (by omega) _ hK,bfs]
    obtain⟨c1,c2⟩:=foldB_ok (a:=adj M i) hb' M.length (Nat.le_refl _)
    exact ih k _ _ c1 (by
     have:(scanB (adj M i) M.length (sn,r)).2.length+(scanB (adj M i) M.length (sn,r)).1.count false=r.length+sn.count false:=c2
     omega) (by omega) (by omega)
open Classical in
def S.i_reach (x:((List (List RB))×(Int×Unit))):(Option ((List Bool)×Unit)):=if(∃M,isM M∧x.1=mp B32 M)∧0≤x.2.1∧x.2.1<(x.1.length:Int)then some (reachB (adj (mv B32 x.1)) x.1.length x.2.1.toNat,())else none
theorem S.i_reach_ok (x:((List (List RB))×(Int×Unit))) (r:_) (h:S.i_reach x=some r):∃k,P.i_reach k x=some r:=by
 obtain⟨m,s,u⟩:=x
 unfold S.i_reach at h
 dsimp only at h
 split at h
 case isFalse=>cases h
 rename_i hc
 obtain⟨⟨M,hM,rfl⟩,h0,h1⟩:=hc
 cases h
 obtain⟨s,rfl⟩:=Int.eq_ofNat_of_zero_le h0
 rw[mv_mp (by decide),mp_len]at*
 have hs:s<M.length:=by omega
 have hn:=hM.1
 refine⟨M.length+1,?_⟩
 unfold P.i_reach
 dsimp only
 have e1:(0:Int)≤(M.length:Int):=by omega
 have e2:(M.length:Int)*1≤281474976710656:=by omega
 have e3:((List.replicate M.length false).length:Int)=(M.length:Int):=by simp
 rw[mp_len]
 simp only[e1,e2,e3,h0,h1,Int.le_refl,decide_true,if_true,Int.toNat_natCast,Nat.zero_add]
 obtain⟨c1,c2⟩:=start_ok hs
 exact reI_outer hM (K:=M.length+1) (by omega) M.length (M.length+1) _ [s] c1 (by omega) (by omega) (by omega)
def P.i_in (k:Nat) (x:(Int×(Int×(Int×Unit)))):(Option (Bool×Unit)):=
 (if((decide (x.1≥x.2.1))=true)then(some ((decide (x.1≤x.2.2.1)),()))
 else(some (false,())))
def S.i_in (x:(Int×(Int×(Int×Unit)))):(Option (Bool×Unit)):=P.i_in 0 x
theorem S.i_in_ok (x:(Int×(Int×(Int×Unit)))) (r:_) (h:S.i_in x=some r):∃k,P.i_in k x=some r:=⟨0,h⟩
def P.i_isState (k:Nat) (x:((List (List RB))×(Int×Unit))):(Option (Bool×Unit)):=
 (Option.bind (S.i_in (x.2.1,((0:Int),((IntKind.wrap .i64 (((List.length x.1):Int) - (1:Int))),())))) (fun(y0:(Bool×Unit))=>(some (y0.1,()))))
def S.i_isState (x:((List (List RB))×(Int×Unit))):(Option (Bool×Unit)):=P.i_isState 0 x
theorem S.i_isState_ok (x:((List (List RB))×(Int×Unit))) (r:_) (h:S.i_isState x=some r):∃k,P.i_isState k x=some r:=⟨0,h⟩
abbrev P.i_setOf_b0 (x1:(Int×(Int×((List Bool)×((List Int)×Unit))))) (g2:(Int×(Int×((List Bool)×((List Int)×Unit))))→Option ((List Int)×Unit)):Option ((List Int)×Unit):=
 (if((decide (x1.1<x1.2.1))=true)then(if((decide ((0:Int)≤x1.1))=true)then(if((decide (x1.1<((List.length x1.2.2.1):Int)))=true)then(if((List.getD x1.2.2.1 (Int.toNat x1.1) false)=true)then(if((decide ((((List.length x1.2.2.2.1)+(List.length (x1.1::([]:List Int))))*(8:Nat))≤(140737488355328:Nat)))=true)then(g2 ((IntKind.wrap .i64 (x1.1+(1:Int))),(x1.2.1,(x1.2.2.1,((x1.2.2.2.1++(x1.1::([]:List Int))),())))))
 else none)
 else(g2 ((IntKind.wrap .i64 (x1.1+(1:Int))),(x1.2.1,(x1.2.2.1,(x1.2.2.2.1,()))))))
 else none)
 else none)
 else(some (x1.2.2.2.1,())))
def P.i_setOf (k:Nat) (x:((List Bool)×Unit)):(Option ((List Int)×Unit)):=
 (loopP (X:=(Int×(Int×((List Bool)×((List Int)×Unit))))) (R:=((List Int)×Unit)) (P.i_setOf_b0) k ((0:Int),(((List.length x.1):Int),(x.1,(([]:List Int),())))))
def S.i_setOf (x:((List Bool)×Unit)):(Option ((List Int)×Unit)):=if x.1.length≤1000000 then some (posF 0 x.1,())else none
theorem S.i_setOf_ok (x:((List Bool)×Unit)) (r:_) (h:S.i_setOf x=some r):∃k,P.i_setOf k x=some r:=by
 obtain⟨sn,u⟩:=x
 unfold S.i_setOf at h
 dsimp only at h
 split at h
 case isFalse=>cases h
 rename_i hc
 cases h
 refine⟨sn.length+1,?_⟩
 unfold P.i_setOf
 dsimp only
 have key:=loop_up0 (k:=sn.length+1) (b:=P.i_setOf_b0) (n:=sn.length) (st:=fun i=>((i:Int),(sn.length:Int),sn,posF 0 (sn.take i),())) (F:=fun i=>some (posF 0 sn,())) (fun i g hi hg=>by
  unfold P.i_setOf_b0
  dsimp only at hg ⊢
  have e1:(i:Int)<(sn.length:Int):=by omega
  have e2:(0:Int)≤(i:Int):=by omega
  have e3:=posF_len 0 (sn.take i)
  rw[List.length_take]at e3
  have e4:((posF 0 (sn.take i)).length+1)*8≤140737488355328:=by omega
  simp only[e1,e2,decide_true,if_true,List.length_cons,List.length_nil,Nat.zero_add,e4]
  rw[getD_cast sn i _ hi,wr (by omega) (by omega)]
  rw[←List.take_append_getElem hi,posF_snoc]at hg
  cases hb:sn[i]
  ·rw[hb,if_neg (by decide),List.append_nil]at hg
   rw[if_neg (by decide)]
   exact hg
  ·rw[hb,if_pos rfl]at hg
   rw[if_pos rfl,←hg]
   congr 1
   simp
   omega) (fun g=>by
  unfold P.i_setOf_b0
  dsimp only
  rw[if_neg (by simp),List.take_length]) (by omega)
 exact key
def P.i_ReachedFrom (k:Nat) (x:((List (List ByteArray))×(Int×Unit))):(Option (((List Int)×Bool)×Unit)):=
 (Option.bind (S.i_chainOf (x.1,())) (fun(y0:(((List (List RB))×Bool)×Unit))=>(if((!y0.1.2)=true)then(some ((([]:List Int),false),()))
 else(Option.bind (S.i_isState (y0.1.1,(x.2.1,()))) (fun(y1:(Bool×Unit))=>(if((!y1.1)=true)then(some ((([]:List Int),false),()))
 else(Option.bind (S.i_reach (y0.1.1,(x.2.1,()))) (fun(y2:((List Bool)×Unit))=>(Option.bind (S.i_setOf (y2.1,())) (fun(y3:((List Int)×Unit))=>(some ((y3.1,true),()))))))))))))
def S.i_ReachedFrom (x:((List (List ByteArray))×(Int×Unit))):(Option (((List Int)×Bool)×Unit)):=P.i_ReachedFrom 0 x
theorem S.i_ReachedFrom_ok (x:((List (List ByteArray))×(Int×Unit))) (r:_) (h:S.i_ReachedFrom x=some r):∃k,P.i_ReachedFrom k x=some r:=⟨0,h⟩
def P.l_FnExactReachedFrom (k:Nat) (x:((List (List ByteArray))×(Int×Unit))):(Option (Bool×Unit)):=
 (Option.bind (S.l_szChain (x.1,((1000000:Int),()))) (fun(y0:(Int×Unit))=>(if((decide (y0.1<(0:Int)))=true)then(some (true,()))
 else(Option.bind (S.l_toChaino (x.1,(false,()))) (fun(y1:(((List ((List ByteArray)×Nat))×Nat)×Unit))=>(Option.bind (S.s_ReachedFrom ((List.map (fun(y2:((List ByteArray)×Nat))=>(List.map (fun(y3:ByteArray)=>y3) (List.take y2.2 y2.1))) (seen (nrm (hd0 y1.1.1) (in0 y1.1.1)) 0 y1.1.2)),(x.2.1,()))) (fun(y4:(((List Int)×Bool)×Unit))=>(Option.bind (S.l_toChaino (x.1,(false,()))) (fun(y5:(((List ((List ByteArray)×Nat))×Nat)×Unit))=>(Option.bind (S.i_ReachedFrom ((List.map (fun(y6:((List ByteArray)×Nat))=>(List.map (fun(y7:ByteArray)=>y7) (List.take y6.2 y6.1))) (seen (nrm (hd0 y5.1.1) (in0 y5.1.1)) 0 y5.1.2)),(x.2.1,()))) (fun(y8:(((List Int)×Bool)×Unit))=>(Option.bind (S.l_eqInt64S (y8.1.1,(y4.1.1,()))) (fun(y9:(Bool×Unit))=>(if((!y9.1)=true)then(some (false,()))
 else(if((!(y8.1.2==y4.1.2))=true)then(some (false,()))
 else(Option.bind (S.l_toChaino (x.1,(false,()))) (fun(y10:(((List ((List ByteArray)×Nat))×Nat)×Unit))=>(Option.bind (S.l_intactChain (((List.drop 0 (nrm (hd0 y5.1.1) (in0 y5.1.1))),y5.1.2),(((List.drop 0 (nrm (hd0 y10.1.1) (in0 y10.1.1))),y10.1.2),()))) (fun(y11:(Bool×Unit))=>(if((!y11.1)=true)then(some (false,()))
 else(if((dup (List.map (fun(y12:(Nat×Nat))=>y12.1) (seen (hd0 y5.1.1) 0 y5.1.2)))=true)then none
 else(Option.bind (S.l_markChain ((nrm (seen (hd0 y5.1.1) 0 y5.1.2) (in0 y5.1.1)),((101:Int),()))) (fun(y13:(Int×((List ((List ByteArray)×Nat))×Unit)))=>(if((decide (y13.1<(0:Int)))=true)then(some (false,()))
 else(Option.bind (S.l_eqInt64S (y8.1.1,(y4.1.1,()))) (fun(y14:(Bool×Unit))=>(if((!y14.1)=true)then(some (false,()))
 else(if((!(y8.1.2==y4.1.2))=true)then(some (false,()))
 else(Option.bind (S.l_markInt64S (y8.1.1,((101:Int),()))) (fun(y15:(Int×((List Int)×Unit)))=>(Option.bind (S.l_heldInt64S ((splice y8.1.1 y15.2.1 (0:Nat)),((101:Int),()))) (fun(y16:(Int×Unit))=>(if((decide (y16.1<(0:Int)))=true)then(some (false,()))
 else(if((y16.1 != y15.1)=true)then(some (false,()))
 else(Option.bind (S.l_toChaino (x.1,(true,()))) (fun(y17:(((List ((List ByteArray)×Nat))×Nat)×Unit))=>(Option.bind (S.i_ReachedFrom ((List.map (fun(y18:((List ByteArray)×Nat))=>(List.map (fun(y19:ByteArray)=>y19) (List.take y18.2 y18.1))) (seen (nrm (hd0 y17.1.1) (in0 y17.1.1)) 0 y17.1.2)),(x.2.1,()))) (fun(y20:(((List Int)×Bool)×Unit))=>(Option.bind (S.l_eqInt64S (y20.1.1,(y4.1.1,()))) (fun(y21:(Bool×Unit))=>(if((!y21.1)=true)then(some (false,()))
 else(if((!(y20.1.2==y4.1.2))=true)then(some (false,()))
 else(Option.bind (S.l_heldInt64S ((splice y8.1.1 y15.2.1 (0:Nat)),((101:Int),()))) (fun(y22:(Int×Unit))=>(if((decide (y22.1<(0:Int)))=true)then(some (false,()))
 else(if((y22.1 != y15.1)=true)then(some (false,()))
 else(some (true,()))))))))))))))))))))))))))))))))))))))))))))))))
def S.l_FnExactReachedFrom (x:((List (List ByteArray))×(Int×Unit))):(Option (Bool×Unit)):=P.l_FnExactReachedFrom 0 x
theorem S.l_FnExactReachedFrom_ok (x:((List (List ByteArray))×(Int×Unit))) (r:_) (h:S.l_FnExactReachedFrom x=some r):∃k,P.l_FnExactReachedFrom k x=some r:=⟨0,h⟩
end Go.Cm
end
