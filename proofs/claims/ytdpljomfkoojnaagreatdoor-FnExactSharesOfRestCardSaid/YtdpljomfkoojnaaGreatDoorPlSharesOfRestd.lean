import Derived.Test.YtdpljomfkoojnaaGreatDoorPlSharesOfRestc
set_option linter.unusedVariables false
set_option maxRecDepth 100000
noncomputable section
namespace Go.Cm
abbrev i_nat_div.A:=Int×Int×Int×List Int×Int×Int×Int×List Int×List Int×Int×Unit
abbrev i_nat_div.B:=Int×List Int×List Int×Int×Int×List Int×Int×Unit
abbrev i_nat_div.C:=Option ((List Int×List Int)×Unit)
abbrev P.b2w (g20:i_nat_div.B→i_nat_div.C) (x22:i_nat_div.A) (g23:i_nat_div.A→i_nat_div.C):i_nat_div.C:=
 (fun(a b c e f h l:Int) (d i j:List Int)=>if decide (a≥(4294967296:Int))then if decide ((IntKind.wrap .u64 (c+f))≥(4294967296:Int))then if decide ((0:Int)≤(IntKind.wrap .i64 (e+(1:Int))))then if decide (((IntKind.wrap .i64 (e+(1:Int)))+(0:Int))≤(d.length:Int))then if decide ((0:Int)≤h)then if decide (h≤(IntKind.wrap .i64 (e+(1:Int))))then(S.a8s (seen d ((0:Nat)+h.toNat) ((Int.toNat (IntKind.wrap .i64 (e+(1:Int)))) - h.toNat),i,IntKind.wrap .u64 (a - (1:Int)),())).bind fun y24=>if y24.1 then if decide ((0:Int)≤h)then if decide (h<(j.length:Int))then g20 (IntKind.wrap .i64 (h - (1:Int)),i,splice d y24.2.1 ((0:Nat)+h.toNat),f,b,j.set ((0:Nat)+h.toNat) (IntKind.wrap .u32 (IntKind.wrap .u64 ((IntKind.wrap .u64 (a - (1:Int))) - (1:Int)))),l,())else none else none else if decide ((0:Int)≤h)then if decide (h<(j.length:Int))then g20 (IntKind.wrap .i64 (h - (1:Int)),i,splice d y24.2.1 ((0:Nat)+h.toNat),f,b,j.set ((0:Nat)+h.toNat) (IntKind.wrap .u32 (IntKind.wrap .u64 (a - (1:Int)))),l,())else none else none else none else none else none else none else g23 (IntKind.wrap .u64 (a - (1:Int)),b,IntKind.wrap .u64 (c+f),d,e,f,h,i,j,l,())else if decide ((0:Int)≤(IntKind.wrap .i64 (e - (2:Int))))then if decide ((IntKind.wrap .i64 (e - (2:Int)))<(d.length:Int))then if decide ((IntKind.wrap .u64 (a*b))>(IntKind.wrap .u64 ((IntKind.wrap .u64 (c*(4294967296:Int)))+(IntKind.wrap .u64 (d.getD ((0:Nat)+(Int.toNat (IntKind.wrap .i64 (e - (2:Int))))) (0:Int))))))then if decide ((IntKind.wrap .u64 (c+f))≥(4294967296:Int))then if decide ((0:Int)≤(IntKind.wrap .i64 (e+(1:Int))))then if decide (((IntKind.wrap .i64 (e+(1:Int)))+(0:Int))≤(d.length:Int))then if decide ((0:Int)≤h)then if decide (h≤(IntKind.wrap .i64 (e+(1:Int))))then(S.a8s (seen d ((0:Nat)+h.toNat) ((Int.toNat (IntKind.wrap .i64 (e+(1:Int)))) - h.toNat),i,IntKind.wrap .u64 (a - (1:Int)),())).bind fun y25=>if y25.1 then if decide ((0:Int)≤h)then if decide (h<(j.length:Int))then g20 (IntKind.wrap .i64 (h - (1:Int)),i,splice d y25.2.1 ((0:Nat)+h.toNat),f,b,j.set ((0:Nat)+h.toNat) (IntKind.wrap .u32 (IntKind.wrap .u64 ((IntKind.wrap .u64 (a - (1:Int))) - (1:Int)))),l,())else none else none else if decide ((0:Int)≤h)then if decide (h<(j.length:Int))then g20 (IntKind.wrap .i64 (h - (1:Int)),i,splice d y25.2.1 ((0:Nat)+h.toNat),f,b,j.set ((0:Nat)+h.toNat) (IntKind.wrap .u32 (IntKind.wrap .u64 (a - (1:Int)))),l,())else none else none else none else none else none else none else g23 (IntKind.wrap .u64 (a - (1:Int)),b,IntKind.wrap .u64 (c+f),d,e,f,h,i,j,l,())else if decide ((0:Int)≤(IntKind.wrap .i64 (e+(1:Int))))then if decide (((IntKind.wrap .i64 (e+(1:Int)))+(0:Int))≤(d.length:Int))then if decide ((0:Int)≤h)then if decide (h≤(IntKind.wrap .i64 (e+(1:Int))))then(S.a8s (seen d ((0:Nat)+h.toNat) ((Int.toNat (IntKind.wrap .i64 (e+(1:Int)))) - h.toNat),i,a,())).bind fun y26=>if y26.1 then if decide ((0:Int)≤h)then if decide (h<(j.length:Int))then g20 (IntKind.wrap .i64 (h - (1:Int)),i,splice d y26.2.1 ((0:Nat)+h.toNat),f,b,j.set ((0:Nat)+h.toNat) (IntKind.wrap .u32 (IntKind.wrap .u64 (a - (1:Int)))),l,())else none else none else if decide ((0:Int)≤h)then if decide (h<(j.length:Int))then g20 (IntKind.wrap .i64 (h - (1:Int)),i,splice d y26.2.1 ((0:Nat)+h.toNat),f,b,j.set ((0:Nat)+h.toNat) (IntKind.wrap .u32 a),l,())else none else none else none else none else none else none else none else none) x22.1 x22.2.1 x22.2.2.1 x22.2.2.2.2.1 x22.2.2.2.2.2.1 x22.2.2.2.2.2.2.1 x22.2.2.2.2.2.2.2.2.2.1 x22.2.2.2.1 x22.2.2.2.2.2.2.2.1 x22.2.2.2.2.2.2.2.2.1
abbrev P.a9m (x28:Int×Int×List Int×Int×List Int×Unit) (g29:Int×Int×List Int×Int×List Int×Unit→i_nat_div.C):i_nat_div.C:=
 (fun(a b d:Int) (c e:List Int)=>if decide (a<b)then if decide ((IntKind.wrap .i64 (a+(1:Int)))<(c.length:Int))then if decide ((0:Int)≤(IntKind.wrap .i64 (a+(1:Int))))then if decide ((IntKind.wrap .i64 (a+(1:Int)))<(c.length:Int))then if decide ((0:Int)≤a)then if decide (a<(c.length:Int))then if decide (d<(0:Int))then none else if decide ((0:Int)≤a)then if decide (a<(c.length:Int))then g29 (IntKind.wrap .i64 (a+(1:Int)),b,c.set ((0:Nat)+a.toNat) (IntKind.wrap .u32 (Int.fdiv (IntKind.wrap .u64 ((IntKind.wrap .u64 ((IntKind.wrap .u64 (c.getD ((0:Nat)+(Int.toNat (IntKind.wrap .i64 (a+(1:Int))))) (0:Int)))*(4294967296:Int)))+(IntKind.wrap .u64 (c.getD ((0:Nat)+a.toNat) (0:Int))))) ((2:Int)^(Min.min d.toNat 64)))),d,e,())else none else none else none else none else none else none else if decide ((0:Int)≤a)then if decide (a<(c.length:Int))then if decide (d<(0:Int))then none else if decide ((0:Int)≤a)then if decide (a<(c.length:Int))then g29 (IntKind.wrap .i64 (a+(1:Int)),b,c.set ((0:Nat)+a.toNat) (IntKind.wrap .u32 (Int.fdiv (IntKind.wrap .u64 ((0:Int)+(IntKind.wrap .u64 (c.getD ((0:Nat)+a.toNat) (0:Int))))) ((2:Int)^(Min.min d.toNat 64)))),d,e,())else none else none else none else none else if decide (e.length≤(1000000000000:Nat))then if decide (c.length≤(1000000000000:Nat))then some ((List.take (List.length (List.dropWhile (fun(y30:Int)=>y30==(0:Int)) (List.reverseAux e ([]:List Int)))) e,List.take (List.length (List.dropWhile (fun(y31:Int)=>y31==(0:Int)) (List.reverseAux c ([]:List Int)))) c),())else none else none) x28.1 x28.2.1 x28.2.2.2.1 x28.2.2.1 x28.2.2.2.2.1
abbrev P.a9n (k:Nat) (x19:i_nat_div.B) (g20:i_nat_div.B→i_nat_div.C):i_nat_div.C:=
 (fun(a d e h:Int) (b c f:List Int)=>if decide (a≥(0:Int))then if decide ((0:Int)≤(IntKind.wrap .i64 (a+(b.length:Int))))then if decide ((IntKind.wrap .i64 (a+(b.length:Int)))<(c.length:Int))then if decide ((0:Int)≤(IntKind.wrap .i64 ((IntKind.wrap .i64 (a+(b.length:Int))) - (1:Int))))then if decide ((IntKind.wrap .i64 ((IntKind.wrap .i64 (a+(b.length:Int))) - (1:Int)))<(c.length:Int))then if decide (d=(0:Int))then none else if decide (d=(0:Int))then none else loopP (P.b2w g20) k (IntKind.wrap .u64 (Int.tdiv (IntKind.wrap .u64 ((IntKind.wrap .u64 ((IntKind.wrap .u64 (c.getD ((0:Nat)+(Int.toNat (IntKind.wrap .i64 (a+(b.length:Int))))) (0:Int)))*(4294967296:Int)))+(IntKind.wrap .u64 (c.getD ((0:Nat)+(Int.toNat (IntKind.wrap .i64 ((IntKind.wrap .i64 (a+(b.length:Int))) - (1:Int))))) (0:Int))))) d),e,Int.tmod (IntKind.wrap .u64 ((IntKind.wrap .u64 ((IntKind.wrap .u64 (c.getD ((0:Nat)+(Int.toNat (IntKind.wrap .i64 (a+(b.length:Int))))) (0:Int)))*(4294967296:Int)))+(IntKind.wrap .u64 (c.getD ((0:Nat)+(Int.toNat (IntKind.wrap .i64 ((IntKind.wrap .i64 (a+(b.length:Int))) - (1:Int))))) (0:Int))))) d,c,IntKind.wrap .i64 (a+(b.length:Int)),d,a,b,f,h,())else none else none else none else none else if decide (c.length≤(1000000000000:Nat))then loopP P.a9m k ((0:Int),(List.length (List.take (List.length (List.dropWhile (fun(y32:Int)=>y32==(0:Int)) (List.reverseAux c ([]:List Int)))) c):Int),List.take (List.length (List.dropWhile (fun(y33:Int)=>y33==(0:Int)) (List.reverseAux c ([]:List Int)))) c,h,f,())else none) x19.1 x19.2.2.2.1 x19.2.2.2.2.1 x19.2.2.2.2.2.2.1 x19.2.1 x19.2.2.1 x19.2.2.2.2.2.1
def P.c9p (k:Nat) (x:List Int×List Int×Unit):i_nat_div.C:=
 (S.a1h (x.1,x.2.1,())).bind fun y0=>if decide (y0.1<(0:Int))then some ((([]:List Int),x.1),())else if(x.2.1.length:Int)==(1:Int)then if decide ((0:Int)<(x.2.1.length:Int))then(S.a2y (x.1,x.2.1.getD (0:Nat) (0:Int),())).bind fun y1=>if decide ((List.length [y1.1.2])≤(1000000000000:Nat))then some ((y1.1.1,List.take (List.length (List.filter.match_1 (fun(y2:Bool)=>List Int) (y1.1.2==(0:Int)) (fun(y3:Unit)=>([]:List Int)) (fun(y4:Unit)=>[y1.1.2]))) [y1.1.2]),())else none else none else if decide ((0:Int)≤(IntKind.wrap .i64 ((x.2.1.length:Int) - (1:Int))))then if decide ((IntKind.wrap .i64 ((x.2.1.length:Int) - (1:Int)))<(x.2.1.length:Int))then(S.a3g (x.2.1.getD (Int.toNat (IntKind.wrap .i64 ((x.2.1.length:Int) - (1:Int)))) (0:Int),())).bind fun y5=>(S.a3q (x.1,y5.1,())).bind fun y6=>(S.a3q (x.2.1,y5.1,())).bind fun y7=>if decide (y7.1.length≤(1000000000000:Nat))then if decide ((0:Int)≤(IntKind.wrap .i64 ((List.length (List.take (List.length (List.dropWhile (fun(y8:Int)=>y8==(0:Int)) (List.reverseAux y7.1 ([]:List Int)))) y7.1):Int) - (1:Int))))then if decide ((IntKind.wrap .i64 ((List.length (List.take (List.length (List.dropWhile (fun(y9:Int)=>y9==(0:Int)) (List.reverseAux y7.1 ([]:List Int)))) y7.1):Int) - (1:Int)))<(List.length (List.take (List.length (List.dropWhile (fun(y10:Int)=>y10==(0:Int)) (List.reverseAux y7.1 ([]:List Int)))) y7.1):Int))then if decide ((0:Int)≤(IntKind.wrap .i64 ((List.length (List.take (List.length (List.dropWhile (fun(y11:Int)=>y11==(0:Int)) (List.reverseAux y7.1 ([]:List Int)))) y7.1):Int) - (2:Int))))then if decide ((IntKind.wrap .i64 ((List.length (List.take (List.length (List.dropWhile (fun(y12:Int)=>y12==(0:Int)) (List.reverseAux y7.1 ([]:List Int)))) y7.1):Int) - (2:Int)))<(List.length (List.take (List.length (List.dropWhile (fun(y13:Int)=>y13==(0:Int)) (List.reverseAux y7.1 ([]:List Int)))) y7.1):Int))then if decide ((0:Int)≤(IntKind.wrap .i64 ((y6.1.length:Int) - (List.length (List.take (List.length (List.dropWhile (fun(y14:Int)=>y14==(0:Int)) (List.reverseAux y7.1 ([]:List Int)))) y7.1):Int))))then if decide ((IntKind.wrap .i64 ((y6.1.length:Int) - (List.length (List.take (List.length (List.dropWhile (fun(y15:Int)=>y15==(0:Int)) (List.reverseAux y7.1 ([]:List Int)))) y7.1):Int)))≤(IntKind.wrap .i64 ((y6.1.length:Int) - (List.length (List.take (List.length (List.dropWhile (fun(y16:Int)=>y16==(0:Int)) (List.reverseAux y7.1 ([]:List Int)))) y7.1):Int))))then if decide (((IntKind.wrap .i64 ((y6.1.length:Int) - (List.length (List.take (List.length (List.dropWhile (fun(y17:Int)=>y17==(0:Int)) (List.reverseAux y7.1 ([]:List Int)))) y7.1):Int)))*(4:Int))≤(281474976710656:Int))then loopP (P.a9n k) k (IntKind.wrap .i64 ((List.length (List.replicate (Int.toNat (IntKind.wrap .i64 ((y6.1.length:Int) - (List.length (List.take (List.length (List.dropWhile (fun(y34:Int)=>y34==(0:Int)) (List.reverseAux y7.1 ([]:List Int)))) y7.1):Int)))) (0:Int)):Int) - (1:Int)),List.take (List.length (List.dropWhile (fun(y35:Int)=>y35==(0:Int)) (List.reverseAux y7.1 ([]:List Int)))) y7.1,y6.1,IntKind.wrap .u64 (List.getD (List.take (List.length (List.dropWhile (fun(y36:Int)=>y36==(0:Int)) (List.reverseAux y7.1 ([]:List Int)))) y7.1) ((0:Nat)+(Int.toNat (IntKind.wrap .i64 ((List.length (List.take (List.length (List.dropWhile (fun(y37:Int)=>y37==(0:Int)) (List.reverseAux y7.1 ([]:List Int)))) y7.1):Int) - (1:Int))))) (0:Int)),IntKind.wrap .u64 (List.getD (List.take (List.length (List.dropWhile (fun(y38:Int)=>y38==(0:Int)) (List.reverseAux y7.1 ([]:List Int)))) y7.1) ((0:Nat)+(Int.toNat (IntKind.wrap .i64 ((List.length (List.take (List.length (List.dropWhile (fun(y39:Int)=>y39==(0:Int)) (List.reverseAux y7.1 ([]:List Int)))) y7.1):Int) - (2:Int))))) (0:Int)),List.replicate (Int.toNat (IntKind.wrap .i64 ((y6.1.length:Int) - (List.length (List.take (List.length (List.dropWhile (fun(y40:Int)=>y40==(0:Int)) (List.reverseAux y7.1 ([]:List Int)))) y7.1):Int)))) (0:Int),y5.1,())else none else none else none else none else none else none else none else none else none else none
theorem id_tail (g:(Int×((List Int)×((List Int)×(Int×(Int×((List Int)×(Int×Unit)))))))→(Option (((List Int)×(List Int))×Unit))) (F:Option (((List Int)×(List Int))×Unit)) {u0 vs:List Int} {m j:Nat} {top next sh:Int}
  (h0:dig B32 u0=true) (hv:dig B32 vs=true) (hN:u0.length=m+vs.length) (hbig:u0.length≤1000000000) (hj:j<m) (hV:0<a0b B32 vs)
  (hg:g ((j:Int) - 1,(vs,(ldU B32 (a0b B32 vs) u0 j,(top,(next,(ldQ B32 (a0b B32 vs) u0 m j,(sh,())))))))=F)
  (q:Nat) (hq:q<4294967296) (h1:ldW B32 (a0b B32 vs) u0 j/a0b B32 vs≤q) (h2:q*a0b B32 vs<ldW B32 (a0b B32 vs) u0 j+a0b B32 vs) (q':Int) (hq':q'=(q:Int)):
  (if((decide ((0:Int)≤(IntKind.wrap .i64 (((j+vs.length:Nat):Int)+(1:Int)))))=true)then(if((decide (((IntKind.wrap .i64 (((j+vs.length:Nat):Int)+(1:Int)))+(0:Int))≤((List.length (ldU B32 (a0b B32 vs) u0 (j+1))):Int)))=true)then(if((decide ((0:Int)≤(j:Int)))=true)then(if((decide ((j:Int)≤(IntKind.wrap .i64 (((j+vs.length:Nat):Int)+(1:Int)))))=true)then(Option.bind (S.a8s ((Go.Cm.seen (ldU B32 (a0b B32 vs) u0 (j+1)) ((0:Nat)+(Int.toNat (j:Int))) ((Int.toNat (IntKind.wrap .i64 (((j+vs.length:Nat):Int)+(1:Int)))) - (Int.toNat (j:Int)))),(vs,(q',())))) (fun(y26:(Bool×((List Int)×Unit)))=>(if(y26.1=true)then(if((decide ((0:Int)≤(j:Int)))=true)then(if((decide ((j:Int)<((List.length (ldQ B32 (a0b B32 vs) u0 m (j+1))):Int)))=true)then(g ((IntKind.wrap .i64 ((j:Int) - (1:Int))),(vs,((Go.Cm.splice (ldU B32 (a0b B32 vs) u0 (j+1)) y26.2.1 ((0:Nat)+(Int.toNat (j:Int)))),(top,(next,((List.set (ldQ B32 (a0b B32 vs) u0 m (j+1)) ((0:Nat)+(Int.toNat (j:Int))) (IntKind.wrap .u32 (IntKind.wrap .u64 (q' - (1:Int))))),(sh,()))))))))
 else none)
 else none)
 else(if((decide ((0:Int)≤(j:Int)))=true)then(if((decide ((j:Int)<((List.length (ldQ B32 (a0b B32 vs) u0 m (j+1))):Int)))=true)then(g ((IntKind.wrap .i64 ((j:Int) - (1:Int))),(vs,((Go.Cm.splice (ldU B32 (a0b B32 vs) u0 (j+1)) y26.2.1 ((0:Nat)+(Int.toNat (j:Int)))),(top,(next,((List.set (ldQ B32 (a0b B32 vs) u0 m (j+1)) ((0:Nat)+(Int.toNat (j:Int))) (IntKind.wrap .u32 q')),(sh,()))))))))
 else none)
 else none))))
 else none)
 else none)
 else none)
 else none)=F:=by
 subst hq';have hhi:=a1l hv;have hA:(u0.take j).length=j:=by simp;omega
 have hQ:=ld_Q a0e hV h0 (show j<u0.length by omega) hj;have hQl:(ldQ B32 (a0b B32 vs) u0 m (j+1)).length=m:=by unfold ldQ;rw[List.length_append,List.length_replicate,a3b];omega
 have hUl:=d1l a0e hV h0 hN hj hhi;have hs:=ld_step a0e hV h0 (show j<u0.length by omega);have hs':=ld_U a0e hV h0 (show j<u0.length by omega);have hvl:vs.length≤vs.length+1:=by omega
 have hve:∀X,X<B32^(vs.length+1)→fd B32 (u0.length - j) X=fd B32 (vs.length+1) X++List.replicate (m - 1 - j) 0:=by
  intro X hX;rw[show u0.length - j=(vs.length+1)+(m - 1 - j) by omega,fd_pad hX]
 have hVl:a0b B32 vs<B32^(vs.length+1):=Nat.lt_of_lt_of_le hhi (Nat.pow_le_pow_right (by decide) hvl);generalize hn:vs.length=n at*;generalize hVV:a0b B32 vs=V at*;generalize hUU:ldW B32 V u0 j=U at*;have hdm:=Nat.mod_add_div U V;have hml:=Nat.mod_lt U hV;obtain⟨n1,n2⟩:=near hV h1 h2;generalize U/V=Q at*;generalize U%V=M at*;have hM:=hve M (by omega);have hU':=hve U hUl;rw[hM]at hs';rw[hU']at hs;generalize hR:List.replicate (m - 1 - j) (0:Int)=R at*;have hRl:R.length=m - 1 - j:=by rw[←hR,List.length_replicate]
 have e1:(0:Int)≤(j:Int):=by omega
 have e2:(j:Int)<(m:Int):=by omega
 have e3:(0:Int)≤((j+n:Nat):Int)+1:=by omega
 have e4:(j:Int)≤((j+n:Nat):Int)+1:=by omega
 have hlen:(ldU B32 V u0 (j+1)).length=j+n+1+R.length:=by
  rw[hs,List.length_append,List.length_append,hA,a3b];omega
 have e5:((j+n:Nat):Int)+1+0≤((j+n+1+R.length:Nat):Int):=by omega
 rw[wr (x:=((j+n:Nat):Int)+1) (by omega) (by omega),hlen,hQl];simp only[e1,e2,e3,e4,e5,decide_true,if_true,Nat.zero_add,Int.toNat_natCast];have hseen:seen (ldU B32 V u0 (j+1)) j ((((j+n:Nat):Int)+1).toNat - j)=fd B32 (n+1) U:=by
  unfold seen;rw[hs,List.drop_left' hA,show(((j+n:Nat):Int)+1).toNat - j=n+1 by omega];exact List.take_left' (a3b _ _ _)
 have hspl:∀X,splice (ldU B32 V u0 (j+1)) (fd B32 (n+1) X) j=u0.take j++(fd B32 (n+1) X++R):=by
  intro X;unfold splice;rw[hs,List.take_left' hA,a3b,←List.drop_drop,List.drop_left' hA,List.drop_left' (a3b _ _ _),List.append_assoc]
 rw[hseen];have hd:a0b B32 (fd B32 (n+1) U)=U:=by rw[b7h,Nat.mod_eq_of_lt hUl]
 unfold S.a8s;dsimp only;rw[a3b,hd,hVV,hn,Int.toNat_natCast,if_pos ⟨b5d (by decide) _ _,hv,by omega,by omega,by omega,by omega,by rw[Nat.mul_comm];omega⟩];rw[Nat.mul_comm q V]at n1 n2
 by_cases hle:V*q≤U
 ·have hqe:=n1 hle;have hsub:U - V*q=M:=by rw[hqe];omega
  rw[if_pos hle,Option.bind_some,hsub];dsimp only;rw[if_neg (by simp),hspl,←hs',w32 (by omega) (by omega),hqe,hQ,wr (by omega) (by omega)];exact hg
 ·have hqe:=n2 (by omega);have hsub:U+V - V*q=M:=by rw[hqe,Nat.mul_add];omega
  rw[if_neg hle,Option.bind_some,hsub];dsimp only;rw[if_pos rfl,hspl,←hs',wu (x:=(q:Int) - 1) (by omega) (by omega),w32 (by omega) (by omega),hqe,show((Q+1:Nat):Int) - 1=((Q:Nat):Int) by omega,hQ,wr (by omega) (by omega)];exact hg
theorem id_inner (g:(Int×((List Int)×((List Int)×(Int×(Int×((List Int)×(Int×Unit)))))))→(Option (((List Int)×(List Int))×Unit))) (F:Option (((List Int)×(List Int))×Unit)) {u0 vs:List Int} {m j:Nat} {sh:Int}
  (h0:dig B32 u0=true) (hv:dig B32 vs=true) (hN:u0.length=m+vs.length) (hbig:u0.length≤1000000000) (hj:j<m) (hn2:2≤vs.length) (hlo:B32^(vs.length - 1)≤a0b B32 vs)
  (hg:g ((j:Int) - 1,(vs,(ldU B32 (a0b B32 vs) u0 j,(((a0b B32 vs/B32^(vs.length - 1):Nat):Int),(((a0b B32 vs/B32^(vs.length - 2)%B32:Nat):Int),(ldQ B32 (a0b B32 vs) u0 m j,(sh,())))))))=F) (w:Nat):
  ∀q r k:Nat,q*(a0b B32 vs/B32^(vs.length - 1))+r=ldW B32 (a0b B32 vs) u0 j/B32^(vs.length - 1)→ldW B32 (a0b B32 vs) u0 j/a0b B32 vs≤q→r<4294967296→4294967296 - r≤w→w<k→q≤18446744073709551615→
  loopP (P.b2w g) k ((q:Int),(((a0b B32 vs/B32^(vs.length - 2)%B32:Nat):Int),((r:Int),(ldU B32 (a0b B32 vs) u0 (j+1),(((j+vs.length:Nat):Int),(((a0b B32 vs/B32^(vs.length - 1):Nat):Int),((j:Int),(vs,(ldQ B32 (a0b B32 vs) u0 m (j+1),(sh,()))))))))))=F:=by
 have hV:0<a0b B32 vs:=Nat.lt_of_lt_of_le (Nat.pow_pos (by decide)) hlo;have hhi:=a1l hv;have hU:=ld_lt a0e hV h0 (show j<u0.length by omega);have win:=ld_win a0e hn2 hlo hhi hU;have htail:=fun q hq h1 h2 q' hq'=>id_tail g F h0 hv hN hbig hj hV hg q hq h1 h2 q' hq'
 have g3:=ld_get a0e hV h0 hN hj hhi (i:=vs.length - 2) (by omega);have hsl:(ldU B32 (a0b B32 vs) u0 (j+1)).length=m+vs.length:=by unfold ldU;rw[List.length_append,a3b,List.length_take];omega
 have hv1B:a0b B32 vs/B32^(vs.length - 1)<4294967296:=by
  have:a0b B32 vs/B32^(vs.length - 1)<B32:=by
   rw[Nat.div_lt_iff_lt_mul (Nat.pow_pos (by decide)),Nat.mul_comm,←Nat.pow_succ,show(vs.length - 1).succ=vs.length by omega];exact hhi
  exact this
 have hv1:=win.hv1;generalize hX:ldW B32 (a0b B32 vs) u0 j/B32^(vs.length - 1)=X at*;generalize hv1e:a0b B32 vs/B32^(vs.length - 1)=v1 at*;have hv2B:a0b B32 vs/B32^(vs.length - 2)%B32<4294967296:=win.hv2;have hu2B:ldW B32 (a0b B32 vs) u0 j/B32^(vs.length - 2)%B32<4294967296:=win.hu2;generalize hv2e:a0b B32 vs/B32^(vs.length - 2)%B32=v2 at*;generalize hu2e:ldW B32 (a0b B32 vs) u0 j/B32^(vs.length - 2)%B32=u2 at*
 induction w with
 |zero=>intro q r k _ _ hr hw;omega
 |succ w ih=>
  intro q r k e hq hr hw hk hqb;obtain⟨k,rfl⟩:∃k',k=k'+1:=⟨k - 1,by omega⟩
  rw[a0k];unfold P.b2w;dsimp only;have c5:(0:Int)≤((j+vs.length:Nat):Int) - 2:=by omega
  have c6:((j+vs.length:Nat):Int) - 2<((m+vs.length:Nat):Int):=by omega
  have hwl:((m+vs.length:Nat):Int)=((List.length (ldU B32 (a0b B32 vs) u0 (j+1)):Nat):Int):=by rw[hsl]
  rw[hwl]at c6;have hstep:ldW B32 (a0b B32 vs) u0 j/a0b B32 vs<q→((r:Int)+(v1:Int)≥4294967296→(q - 1)<4294967296∧ldW B32 (a0b B32 vs) u0 j/a0b B32 vs≤q - 1∧(q - 1)*a0b B32 vs<ldW B32 (a0b B32 vs) u0 j+a0b B32 vs∧IntKind.wrap .u64 ((q:Int) - 1)=((q - 1:Nat):Int))∧(¬((r:Int)+(v1:Int)≥4294967296)→loopP (P.b2w g) k (IntKind.wrap .u64 ((q:Int) - 1),((v2:Int),((r:Int)+(v1:Int),(ldU B32 (a0b B32 vs) u0 (j+1),(((j+vs.length:Nat):Int),((v1:Int),((j:Int),(vs,(ldQ B32 (a0b B32 vs) u0 m (j+1),(sh,()))))))))))=F):=by
   intro hlt;have hq1:1≤q:=Nat.lt_of_le_of_lt (Nat.zero_le _) hlt;have eq1:IntKind.wrap .u64 ((q:Int) - 1)=((q - 1:Nat):Int):=by
    rw[wu (by omega) (by omega)];omega
   have e':(q - 1)*v1+(r+v1)=X:=by
    obtain⟨p,rfl⟩:∃p,q=p+1:=⟨q - 1,by omega⟩
    rw[Nat.add_mul,Nat.one_mul]at e;rw[Nat.add_sub_cancel];omega
   constructor
   ·intro hge;have hd:=win.done e' (.inr (show(4294967296:Nat)≤r+v1 by omega));exact⟨hd.1,by omega,hd.2,eq1⟩
   ·intro hge;rw[eq1,←Int.natCast_add];exact ih (q - 1) (r+v1) k e' (by omega) (by omega) (by omega) (by omega) (by omega)
  rw[wu (x:=(r:Int)+(v1:Int)) (by omega) (by omega)]
  by_cases b1:q≥4294967296
  ·rw[if_pos (decide_eq_true (show(q:Int)≥4294967296 by omega))];obtain⟨s1,s2⟩:=hstep (win.down e hq (.inl b1))
   by_cases b2:(r:Int)+(v1:Int)≥4294967296
   ·rw[if_pos (decide_eq_true b2)];obtain⟨t1,t2,t3,t4⟩:=s1 b2;exact htail (q - 1) t1 t2 t3 _ t4
   ·rw[if_neg (by simpa using b2)];exact s2 b2
  ·rw[if_neg (by simp;omega)];rw[wr (x:=((j+vs.length:Nat):Int) - 2) (by omega) (by omega),if_pos (decide_eq_true c5),if_pos (decide_eq_true c6),show 0+(((j+vs.length:Nat):Int) - 2).toNat=j+(vs.length - 2) by omega,g3];have hqv:q*v2≤4294967295*4294967295:=Nat.mul_le_mul (by omega) (by omega);rw[←Int.natCast_mul,wu (x:=((q*v2:Nat):Int)) (by omega) (by omega),wu (x:=(r:Int)*4294967296) (by omega) (by omega),wu (x:=(u2:Int)) (by omega) (by omega),wu (x:=(r:Int)*4294967296+(u2:Int)) (by omega) (by omega)]
   by_cases b3:q*v2>r*4294967296+u2
   ·rw[if_pos (decide_eq_true (show((q*v2:Nat):Int)>(r:Int)*4294967296+(u2:Int) by omega))];obtain⟨s1,s2⟩:=hstep (win.down e hq (.inr b3))
    by_cases b2:(r:Int)+(v1:Int)≥4294967296
    ·rw[if_pos (decide_eq_true b2)];obtain⟨t1,t2,t3,t4⟩:=s1 b2;exact htail (q - 1) t1 t2 t3 _ t4
    ·rw[if_neg (by simpa using b2)];exact s2 b2
   ·rw[if_neg (by simp;omega)];have hd:=win.done e (.inl ⟨show q<B32 by show q<4294967296;omega,show q*v2≤r*B32+u2 by show q*v2≤r*4294967296+u2;omega⟩);exact htail q hd.1 hq hd.2 _ rfl
theorem id_down {R sh:Nat} {qs:List Int} {n:Nat} (hn:(nd B32 R).length=n) (hsh:sh≤31) (hb:n≤1000000000) (hq:dig B32 qs=true) (hql:qs.length≤1000000000) (k:Nat) (hk:n<k):
  loopP P.a9m k ((0:Int),((n:Int),(nd B32 R,((sh:Int),(qs,())))))=some ((nd B32 (a0b B32 qs),nd B32 (R/2^sh)),()):=by
 have hRn:R<B32^n:=(a4h a0e R n).1 (by omega);have hpow:0<2^sh:=Nat.pow_pos (by decide);have hndfd:nd B32 R=fd B32 n R:=by
  have:=c4y (B:=B32) (by decide) (a3x a0e R);rw[hn,a0j a0e]at this;exact this.symm
 have key:=a0h (k:=k) (b:=P.a9m) (n:=n) (st:=fun i=>((i:Int),(n:Int),fd B32 i (R/2^sh)++fd B32 (n - i) (R/B32^i),(sh:Int),qs,())) (F:=fun i=>some ((nd B32 (a0b B32 qs),nd B32 (R/2^sh)),())) (fun i g hi hg=>by
  unfold P.a9m;dsimp only at hg ⊢;refine Eq.trans ?_ hg;clear hg;have hlen:(fd B32 i (R/2^sh)++fd B32 (n - i) (R/B32^i)).length=n:=by rw[List.length_append,a3b,a3b];omega
  have hfl:(fd B32 i (R/2^sh)).length=i:=a3b _ _ _;have e1:(i:Int)<(n:Int):=by omega
  have e2:(0:Int)≤(i:Int):=by omega
  have e3:¬((sh:Int)<0):=by omega
  have e4:(0:Int)≤(i:Int)+1:=by omega
  have emin:Min.min sh 64=sh:=by omega
  have ep:((2:Int)^sh)=((2^sh:Nat):Int):=by rw[Int.natCast_pow];rfl
  rw[hlen,wr (x:=(i:Int)+1) (by omega) (by omega)];simp only[e1,e2,e3,e4,decide_true,decide_false,if_true,if_false,Bool.false_eq_true,Nat.zero_add,Int.toNat_natCast];rw[emin,ep];have hsplit:fd B32 (n - i) (R/B32^i)=((R/B32^i%B32:Nat):Int)::fd B32 (n - (i+1)) (R/B32^(i+1)):=by
   rw[show n - i=(n - (i+1))+1 by omega,fd,Nat.div_div_eq_div_mul,Nat.pow_succ]
  rw[hsplit];simp only[b2m hfl,b0t hfl];have hx:R/B32^i%B32<4294967296:=Nat.mod_lt _ (by decide);have hy:R/B32^(i+1)%B32<4294967296:=Nat.mod_lt _ (by decide);have hval:∀Y:Nat,Y=R/B32^(i+1)%B32→IntKind.wrap .u32 (Int.fdiv (((Y*4294967296+R/B32^i%B32:Nat):Int)) ((2^sh:Nat):Int))=((R/2^sh/B32^i%B32:Nat):Int):=by
   intro Y hY;rw[Int.fdiv_eq_ediv_of_nonneg _ (by omega),←Int.natCast_ediv,c2v];have e5:∀z:Nat,((z:Nat):Int)%4294967296=((z%B32:Nat):Int):=by
    intro z;show _=((z%4294967296:Nat):Int)
    omega
   rw[e5];congr 1;have e6:Y*4294967296+R/B32^i%B32=R/B32^i%(B32*B32):=by
    rw[hY,Nat.mod_mul,Nat.div_div_eq_div_mul,←Nat.pow_succ,Nat.add_comm,Nat.mul_comm]
   have e7:R/2^sh/B32^i=R/B32^i/2^sh:=by rw[Nat.div_div_eq_div_mul,Nat.div_div_eq_div_mul,Nat.mul_comm]
   have e8:B32*B32=2^sh*(B32*2^(32 - sh)):=by
    have:B32=2^sh*2^(32 - sh):=by rw[←Nat.pow_add,show sh+(32 - sh)=32 by omega]
    calc B32*B32=2^sh*2^(32 - sh)*B32:=by rw[←this]
     _=2^sh*(B32*2^(32 - sh)):=by ac_rfl
   rw[e6,e7,e8,Nat.mod_mul_right_div_self,Nat.mod_mul_right_mod]
  by_cases hj:(i:Int)+1<(n:Int)
  ·have hj':fd B32 (n - (i+1)) (R/B32^(i+1))=((R/B32^(i+1)%B32:Nat):Int)::fd B32 (n - (i+1) - 1) (R/B32^(i+1)/B32):=by
    conv=>lhs;rw[show n - (i+1)=(n - (i+1) - 1)+1 by omega,fd]
   have hg2:(fd B32 i (R/2^sh)++((R/B32^i%B32:Nat):Int)::fd B32 (n - (i+1)) (R/B32^(i+1))).getD ((i:Int)+1).toNat 0=((R/B32^(i+1)%B32:Nat):Int):=by
    rw[hj',show((i:Int)+1).toNat=i+1 by omega,List.append_cons];exact b0t (by rw[List.length_append,hfl];rfl)
   rw[if_pos (decide_eq_true hj),if_pos (decide_eq_true hj),hg2];rw[wu (x:=((R/B32^(i+1)%B32:Nat):Int)) (by omega) (by omega),wu (x:=((R/B32^(i+1)%B32:Nat):Int)*4294967296) (by omega) (by omega),wu (x:=((R/B32^i%B32:Nat):Int)) (by omega) (by omega),wu (x:=((R/B32^(i+1)%B32:Nat):Int)*4294967296+((R/B32^i%B32:Nat):Int)) (by omega) (by omega),show((R/B32^(i+1)%B32:Nat):Int)*4294967296+((R/B32^i%B32:Nat):Int)=((R/B32^(i+1)%B32*4294967296+R/B32^i%B32:Nat):Int) by omega,hval _ rfl,←fd_snoc];rfl
  ·rw[if_neg (by simpa using hj)];have hn1:n=i+1:=by omega
   have h0:0=R/B32^(i+1)%B32:=by rw[←hn1,Nat.div_eq_of_lt hRn,Nat.zero_mod]
   rw[wu (x:=((R/B32^i%B32:Nat):Int)) (by omega) (by omega),wu (x:=0+((R/B32^i%B32:Nat):Int)) (by omega) (by omega),show 0+((R/B32^i%B32:Nat):Int)=((0*4294967296+R/B32^i%B32:Nat):Int) by omega,hval 0 h0,←fd_snoc];rfl) (fun g=>by
  unfold P.a9m;dsimp only;have hRs:R/2^sh<B32^n:=Nat.lt_of_le_of_lt (Nat.div_le_self _ _) hRn;have hl1:qs.length≤1000000000000:=by omega
  have hfl:(fd B32 n (R/2^sh)).length=n:=a3b _ _ _;have hl2:(fd B32 n (R/2^sh)).length≤1000000000000:=by omega
  rw[if_neg (by simp),Nat.sub_self,show fd B32 0 (R/B32^n)=[]from rfl,List.append_nil,if_pos (decide_eq_true hl1),if_pos (decide_eq_true hl2),d1m a0e _ _ rfl hq,d1m a0e _ _ rfl (b5d (by decide) _ _),nd_fd a0e hRs]) hk
 rw[show fd B32 0 (R/2^sh)++fd B32 (n - 0) (R/B32^0)=nd B32 R by rw[hndfd,Nat.pow_zero,Nat.div_one];rfl]at key;exact key
theorem id_outer {u0 vs:List Int} {m sh:Nat}
  (h0:dig B32 u0=true) (hv:dig B32 vs=true) (hN:u0.length=m+vs.length) (hbig:u0.length≤1000000000) (hn2:2≤vs.length) (hlo:B32^(vs.length - 1)≤a0b B32 vs) (hsh:sh≤31) (ht:a0b B32 (u0.drop m)<a0b B32 vs) (k:Nat) (hk:k=u0.length+4294967310):
  loopP (P.a9n k) k ((m:Int) - 1,(vs,(u0,(((a0b B32 vs/B32^(vs.length - 1):Nat):Int),(((a0b B32 vs/B32^(vs.length - 2)%B32:Nat):Int),(List.replicate m 0,((sh:Int),())))))))=some ((nd B32 (a0b B32 u0/a0b B32 vs),nd B32 (a0b B32 u0%a0b B32 vs/2^sh)),()):=by
 have hV:0<a0b B32 vs:=Nat.lt_of_lt_of_le (Nat.pow_pos (by decide)) hlo;have hhi:=a1l hv;obtain⟨f1,f2⟩:=ld_first a0e hV h0 (show m≤u0.length by omega) ht;have key:=a0h (k:=k) (b:=P.a9n k) (n:=m) (st:=fun i=>((m:Int) - 1 - (i:Int),vs,ldU B32 (a0b B32 vs) u0 (m - i),((a0b B32 vs/B32^(vs.length - 1):Nat):Int),((a0b B32 vs/B32^(vs.length - 2)%B32:Nat):Int),ldQ B32 (a0b B32 vs) u0 m (m - i),(sh:Int),())) (F:=fun i=>some ((nd B32 (a0b B32 u0/a0b B32 vs),nd B32 (a0b B32 u0%a0b B32 vs/2^sh)),())) (fun i g hi hg=>by
  unfold P.a9n;dsimp only at hg ⊢;obtain⟨j,hj⟩:∃j,m - i=j+1:=⟨m - i - 1,by omega⟩
  have hjm:j<m:=by omega
  rw[show m - (i+1)=j by omega,show(m:Int) - 1 - ((i+1:Nat):Int)=(j:Int) - 1 by omega]at hg;rw[hj,show(m:Int) - 1 - (i:Int)=(j:Int) by omega];have hU:=ld_lt a0e hV h0 (show j<u0.length by omega);have win:=ld_win a0e hn2 hlo hhi hU;have g3:=ld_get a0e hV h0 hN hjm hhi (i:=vs.length) (by omega);have g4:=ld_get a0e hV h0 hN hjm hhi (i:=vs.length - 1) (by omega);have hsl:(ldU B32 (a0b B32 vs) u0 (j+1)).length=m+vs.length:=by unfold ldU;rw[List.length_append,a3b,List.length_take];omega
  have hv1B:a0b B32 vs/B32^(vs.length - 1)<4294967296:=by
   have:a0b B32 vs/B32^(vs.length - 1)<B32:=by
    rw[Nat.div_lt_iff_lt_mul (Nat.pow_pos (by decide)),Nat.mul_comm,←Nat.pow_succ,show(vs.length - 1).succ=vs.length by omega];exact hhi
   exact this
  have hv1:=win.hv1;have hxlt:=win.xlt;have hstart:=win.start;have hUl:=d1l a0e hV h0 hN hjm hhi;have hinner:=id_inner g _ h0 hv hN hbig hjm hn2 hlo hg 4294967296;have hXe:ldW B32 (a0b B32 vs) u0 j/B32^vs.length%B32*4294967296+ldW B32 (a0b B32 vs) u0 j/B32^(vs.length - 1)%B32=ldW B32 (a0b B32 vs) u0 j/B32^(vs.length - 1):=by
   have hq:ldW B32 (a0b B32 vs) u0 j/B32^vs.length<B32:=by
    rw[Nat.div_lt_iff_lt_mul (Nat.pow_pos (by decide)),Nat.mul_comm,←Nat.pow_succ];exact hUl
   rw[Nat.mod_eq_of_lt hq];have e:B32^vs.length=B32^(vs.length - 1)*B32:=by rw[←Nat.pow_succ];congr 1;omega
   rw[e,←Nat.div_div_eq_div_mul,Nat.mul_comm];exact Nat.div_add_mod _ _
  have hu1:ldW B32 (a0b B32 vs) u0 j/B32^vs.length%B32<4294967296:=Nat.mod_lt _ (by decide);have hu0:ldW B32 (a0b B32 vs) u0 j/B32^(vs.length - 1)%B32<4294967296:=Nat.mod_lt _ (by decide);generalize hX:ldW B32 (a0b B32 vs) u0 j/B32^(vs.length - 1)=X at*;generalize hv1e:a0b B32 vs/B32^(vs.length - 1)=v1 at*;generalize ldW B32 (a0b B32 vs) u0 j/B32^vs.length%B32=ua at*;generalize X%B32=ub at*;have c0:(j:Int)≥0:=by omega
  have c1:(0:Int)≤((j+vs.length:Nat):Int):=by omega
  have c2:((j+vs.length:Nat):Int)<((m+vs.length:Nat):Int):=by omega
  have c3:(0:Int)≤((j+vs.length:Nat):Int) - 1:=by omega
  have c4:((j+vs.length:Nat):Int) - 1<((m+vs.length:Nat):Int):=by omega
  have c7:¬((v1:Int)=0):=by omega
  rw[hsl,←Int.natCast_add j,wr (x:=((j+vs.length:Nat):Int)) (by omega) (by omega),wr (x:=((j+vs.length:Nat):Int) - 1) (by omega) (by omega)];simp only[c0,c1,c2,c3,c4,c7,decide_true,decide_false,if_true,if_false,Bool.false_eq_true];rw[show 0+(((j+vs.length:Nat):Int)).toNat=j+vs.length by omega,show 0+(((j+vs.length:Nat):Int) - 1).toNat=j+(vs.length - 1) by omega,g3,g4];rw[wu (x:=(ua:Int)) (by omega) (by omega),wu (x:=(ub:Int)) (by omega) (by omega),wu (x:=(ua:Int)*4294967296) (by omega) (by omega),wu (x:=(ua:Int)*4294967296+(ub:Int)) (by omega) (by omega),show(ua:Int)*4294967296+(ub:Int)=(X:Int) by omega,Int.tdiv_eq_ediv_of_nonneg (by omega),Int.tmod_eq_emod_of_nonneg (by omega),←Int.natCast_ediv,←Int.natCast_emod];have hX18:X≤18446744073709551615:=by omega
  have hXd:X/v1≤X:=Nat.div_le_self _ _;have hml:=Nat.mod_lt X hv1;have hdm:X/v1*v1+X%v1=X:=by rw[Nat.mul_comm];exact Nat.div_add_mod _ _
  generalize X/v1=qq at*;generalize X%v1=rr at*;rw[wu (x:=(qq:Int)) (by omega) (by omega)];exact hinner qq rr k hdm hstart (by omega) (by omega) (by omega) (by omega)) (fun g=>by
  unfold P.a9n;dsimp only;rw[if_neg (by simp;omega),Nat.sub_self];have hVN:a0b B32 vs≤B32^u0.length:=Nat.le_trans (Nat.le_of_lt hhi) (Nat.pow_le_pow_right (by decide) (by omega));obtain⟨l1,l2,l3,l4,l5,l6⟩:=ld_last a0e hV h0 (show m≤u0.length by omega) ht hVN;have hul:(nd B32 (a0b B32 u0%a0b B32 vs)).length≤u0.length:=by
   rw[a4h a0e,←l1,←l5];exact a1l l3
  have hl1:(ldU B32 (a0b B32 vs) u0 0).length≤1000000000000:=by omega
  rw[if_pos (decide_eq_true hl1),d1m a0e _ _ rfl l3,l1,id_down rfl hsh (by omega) l4 (by omega) k (by omega),l2]) (by omega)
 rw[Nat.sub_zero,f1,f2]at key;rw[←key,show(m:Int) - 1 - ((0:Nat):Int)=(m:Int) - 1 by omega]
def S.a4q (x:((List Int)×((List Int)×Unit))):(Option (((List Int)×(List Int))×Unit)):=if a2s B32 x.1=true∧a2s B32 x.2.1=true∧x.2.1≠ []∧x.1.length≤100000000∧x.2.1.length≤100000000 then some ((nd B32 (a0b B32 x.1/a0b B32 x.2.1),nd B32 (a0b B32 x.1%a0b B32 x.2.1)),())else none
theorem S.i_nat_div_ok (x r) (h:S.a4q x=some r):∃k,P.c9p k x=some r:=by
 obtain⟨as,bs,u⟩:=x;unfold S.a4q at h;dsimp only at h;split at h
 case isFalse=>cases h
 rename_i hc;obtain⟨ca,cb,hne,la,lb⟩:=hc;cases h;have da:=a1o ca;have db:=a1o cb;have hbpos:0<bs.length:=List.length_pos_iff.2 hne;have hb0:a0b B32 bs≠0:=by
  intro q;have:=a1b cb;rw[q,a1s a0e]at this;exact hne this.symm
 have hlow:=nd_low a0e hb0;rw[a1b cb]at hlow;have hhib:=a1l db;have hhia:=a1l da;have sc:S.a1h (as,(bs,()))=some (b0q (a0b B32 as) (a0b B32 bs),()):=by
  unfold S.a1h;exact if_pos ⟨ca,cb,by dsimp only;omega⟩
 refine⟨(as.length+1)+4294967310,?_⟩;unfold P.c9p;dsimp only;rw[sc,Option.bind_some];dsimp only
 by_cases hlt:a0b B32 as<a0b B32 bs
 ·rw[if_pos (decide_eq_true (c1n.2 hlt)),Nat.div_eq_of_lt hlt,Nat.mod_eq_of_lt hlt,a1s a0e,a1b ca]
 ·rw[if_neg (by simpa [c1n]using hlt)]
  by_cases h1:bs.length=1
  ·obtain⟨b0,rfl⟩:∃b0,bs=[b0]:=by
    match bs,h1 with
    | [b0],_=>exact⟨b0,rfl⟩
   rw[if_pos (by rfl),if_pos (by rfl)];have hb:a0b B32 [b0]=b0.toNat:=by simp [a0b]
   have hbd:=(a2j _ _).1 db;have hbd1:b0<4294967296:=hbd.1.2;rw[hb]at hb0 ⊢;show Option.bind (S.a2y (as,(b0,()))) _=_;unfold S.a2y;dsimp only;have hm:=Nat.mod_lt (a0b B32 as) (show 0<b0.toNat by omega);rw[if_pos ⟨da,by omega,by omega,by omega⟩,Option.bind_some];dsimp only;generalize a0b B32 as%b0.toNat=M at*;have hone:dig B32 [(M:Int)]=true:=by
    rw[a2j];refine⟨⟨by omega,?_⟩,rfl⟩;show(M:Int)<4294967296;omega
   have ht:=d1m a0e 1 [(M:Int)] rfl hone;rw[show a0b B32 [(M:Int)]=M by simp [a0b]]at ht;rw[if_pos (by rfl),←ht];rfl
  ·rw[if_neg (by simp;omega)];have hn2:2≤bs.length:=by omega
   have c1:(0:Int)≤(bs.length:Int) - 1:=by omega
   have c2:(bs.length:Int) - 1<(bs.length:Int):=by omega
   have hbtB:a0b B32 bs/B32^(bs.length - 1)<4294967296:=by
    have:a0b B32 bs/B32^(bs.length - 1)<B32:=by
     rw[Nat.div_lt_iff_lt_mul (Nat.pow_pos (by decide)),Nat.mul_comm,←Nat.pow_succ,show(bs.length - 1).succ=bs.length by omega];exact hhib
    exact this
   have hbt0:0<a0b B32 bs/B32^(bs.length - 1):=Nat.div_pos hlow (Nat.pow_pos (by decide));have g1:=c1m a0e db (i:=bs.length - 1) (by omega);rw[show a0b B32 bs/B32^(bs.length - 1)%B32=a0b B32 bs/B32^(bs.length - 1)from Nat.mod_eq_of_lt hbtB]at g1;have hbt1:a0b B32 bs<(a0b B32 bs/B32^(bs.length - 1)+1)*B32^(bs.length - 1):=by
    have:=Nat.lt_div_mul_add (show 0<B32^(bs.length - 1)from Nat.pow_pos (by decide)) (a:=a0b B32 bs);rw[Nat.add_mul,Nat.one_mul];exact this
   generalize hbt:a0b B32 bs/B32^(bs.length - 1)=bt at*;rw[wr (x:=(bs.length:Int) - 1) (by omega) (by omega),if_pos (decide_eq_true c1),if_pos (decide_eq_true c2),show((bs.length:Int) - 1).toNat=bs.length - 1 by omega,g1];unfold S.a3g;dsimp only;rw[if_pos ⟨by omega,by omega⟩,Option.bind_some,Int.toNat_natCast];dsimp only;obtain⟨b1,b2,b3⟩:=Go.Lib.bitLenAux_bounds 64 bt (by omega) (by omega);have hL32:Go.Lib.bitLen bt≤32:=Go.Lib.bitLen_le bt 32 (by decide) (by omega);have hL:Go.Lib.bitLen bt=Go.Lib.bitLenAux 64 bt:=rfl;rw[←hL]at b1 b2 b3;generalize Go.Lib.bitLen bt=L at*;obtain⟨sh,hsh⟩:∃sh:Nat,sh=32 - L:=⟨_,rfl⟩
   have hsh1:sh≤31:=by omega
   have hsI:(32:Int) - (L:Int)=(sh:Int):=by omega
   rw[hsI];have hpow:0<2^sh:=Nat.pow_pos (by decide);have hd2:(bt+1)*2^sh≤B32:=by
    have h3:(bt+1)*2^sh≤2^L*2^sh:=Nat.mul_le_mul_right _ b3;rw[←Nat.pow_add,show L+sh=32 by omega]at h3;exact h3
   have m1:S.a3q (as,((sh:Int),()))=some (fd B32 (as.length+1) (a0b B32 as*2^sh),()):=by
    unfold S.a3q;exact if_pos ⟨da,by dsimp only;omega,by dsimp only;omega,by dsimp only;omega⟩
   have m2:S.a3q (bs,((sh:Int),()))=some (fd B32 (bs.length+1) (a0b B32 bs*2^sh),()):=by
    unfold S.a3q;exact if_pos ⟨db,by dsimp only;omega,by dsimp only;omega,by dsimp only;omega⟩
   rw[m1,Option.bind_some,m2,Option.bind_some];dsimp only;have hvhi:a0b B32 bs*2^sh<B32^bs.length:=by
    have h3:a0b B32 bs*2^sh<(bt+1)*B32^(bs.length - 1)*2^sh:=Nat.mul_lt_mul_of_pos_right hbt1 hpow;have h4:(bt+1)*B32^(bs.length - 1)*2^sh=(bt+1)*2^sh*B32^(bs.length - 1):=by ac_rfl
    have h5:(bt+1)*2^sh*B32^(bs.length - 1)≤B32*B32^(bs.length - 1):=Nat.mul_le_mul_right _ hd2;have h6:B32*B32^(bs.length - 1)=B32^bs.length:=by rw[Nat.mul_comm,←Nat.pow_succ];congr 1;omega
    omega
   have hvlo:B32^(bs.length - 1)≤a0b B32 bs*2^sh:=Nat.le_trans hlow (Nat.le_mul_of_pos_right _ hpow);have hvl:(nd B32 (a0b B32 bs*2^sh)).length=bs.length:=by
    have h3:=(a4h a0e (a0b B32 bs*2^sh) bs.length).2 hvhi;have h4:=a4h a0e (a0b B32 bs*2^sh) (bs.length - 1);have h5:¬(nd B32 (a0b B32 bs*2^sh)).length≤bs.length - 1:=by
     rw[h4];omega
    omega
   have hahi:a0b B32 as*2^sh<B32^(as.length+1):=by
    have h3:2^sh≤B32:=Nat.le_trans (Nat.pow_le_pow_right (by decide) hsh1) (by decide);rw[Nat.pow_succ];exact Nat.lt_of_lt_of_le (Nat.mul_lt_mul_of_pos_right hhia hpow) (Nat.mul_le_mul_left _ h3)
   have hab:bs.length≤as.length:=by
    rcases Nat.lt_or_ge as.length bs.length with g|g
    ·have:=b0r a0e ca cb g;omega
    ·exact g
   have htr:List.take (List.length (List.dropWhile (fun y:Int=>(y==(0:Int))) (List.reverseAux (fd B32 (bs.length+1) (a0b B32 bs*2^sh)) ([]:List Int)))) (fd B32 (bs.length+1) (a0b B32 bs*2^sh))=nd B32 (a0b B32 bs*2^sh):=by
    rw[d1m a0e _ _ rfl (b5d (by decide) _ _),nd_fd a0e (Nat.lt_of_lt_of_le hvhi (Nat.pow_le_pow_right (by decide) (by omega)))]
   rw[htr,a3b,a3b];have hdw:a0b B32 (nd B32 (a0b B32 bs*2^sh))=a0b B32 bs*2^sh:=a0j a0e _;have hdv':=a3x a0e (a0b B32 bs*2^sh);have hu0:a0b B32 (fd B32 (as.length+1) (a0b B32 as*2^sh))=a0b B32 as*2^sh:=by rw[b7h,Nat.mod_eq_of_lt hahi]
   have hul:(fd B32 (as.length+1) (a0b B32 as*2^sh)).length=as.length+1:=a3b _ _ _;have hud:dig B32 (fd B32 (as.length+1) (a0b B32 as*2^sh))=true:=b5d (by decide) _ _;generalize nd B32 (a0b B32 bs*2^sh)=vs at*;generalize fd B32 (as.length+1) (a0b B32 as*2^sh)=u0 at*;have ht:a0b B32 (u0.drop (as.length+1 - bs.length))<a0b B32 bs*2^sh:=ld_top (n:=vs.length) a0e hud hu0 hpow (by omega) (by rw[show as.length+1 - bs.length+vs.length - 1=as.length by omega];exact hhia) (by omega) (by rw[hvl];exact hlow);have hmain:=id_outer (m:=as.length+1 - bs.length) (sh:=sh) hud hdv' (by omega) (by omega) (by omega) (by rw[hvl,hdw];exact hvlo) hsh1 (by rw[hdw];exact ht) ((as.length+1)+4294967310) (by omega);have g2:=c1m a0e hdv' (i:=vs.length - 1) (by omega);have g3:=c1m a0e hdv' (i:=vs.length - 2) (by omega);have hv1B:a0b B32 vs/B32^(vs.length - 1)<4294967296:=by
    have:a0b B32 vs/B32^(vs.length - 1)<B32:=by
     rw[Nat.div_lt_iff_lt_mul (Nat.pow_pos (by decide)),Nat.mul_comm,←Nat.pow_succ,show(vs.length - 1).succ=vs.length by omega];exact a1l hdv'
    exact this
   rw[show a0b B32 vs/B32^(vs.length - 1)%B32=a0b B32 vs/B32^(vs.length - 1)from Nat.mod_eq_of_lt hv1B]at g2;have hv2B:a0b B32 vs/B32^(vs.length - 2)%B32<4294967296:=Nat.mod_lt _ (by decide);generalize a0b B32 vs/B32^(vs.length - 1)=v1 at*;generalize a0b B32 vs/B32^(vs.length - 2)%B32=v2 at*;have e9:(((as.length+1:Nat):Int) - (vs.length:Int))=((as.length+1 - bs.length:Nat):Int):=by omega
   have c3:(bs.length+1)≤1000000000000:=by omega
   have c4:(0:Int)≤(vs.length:Int) - 1:=by omega
   have c5:(vs.length:Int) - 1<(vs.length:Int):=by omega
   have c6:(0:Int)≤(vs.length:Int) - 2:=by omega
   have c7:(vs.length:Int) - 2<(vs.length:Int):=by omega
   have c8:(0:Int)≤((as.length+1 - bs.length:Nat):Int):=by omega
   have c9:((as.length+1 - bs.length:Nat):Int)*4≤281474976710656:=by omega
   rw[e9,wr (x:=((as.length+1 - bs.length:Nat):Int)) (by omega) (by omega),wr (x:=(vs.length:Int) - 1) (by omega) (by omega),wr (x:=(vs.length:Int) - 2) (by omega) (by omega)];simp only[c3,c4,c5,c6,c7,c8,c9,decide_true,if_true,Int.le_refl,Int.toNat_natCast,List.length_replicate,Nat.zero_add];rw[show((vs.length:Int) - 1).toNat=vs.length - 1 by omega,show((vs.length:Int) - 2).toNat=vs.length - 2 by omega,g2,g3,wu (x:=(v1:Int)) (by omega) (by omega),wu (x:=(v2:Int)) (by omega) (by omega),wr (x:=((as.length+1 - bs.length:Nat):Int) - 1) (by omega) (by omega),hmain,hu0,hdw,Nat.mul_div_mul_right _ _ hpow,Nat.mul_mod_mul_right,Nat.mul_div_cancel _ hpow]
abbrev i_nat_gcd.A:=Option (List Int×Unit)
abbrev P.b8o (x6:Int×Int×Unit) (g7:Int×Int×Unit→i_nat_gcd.A):i_nat_gcd.A:=
 if decide (x6.1>(0:Int))then if decide (x6.1=(0:Int))then none else g7 (Int.tmod x6.2.1 x6.1,x6.1,())else(S.a3d (x6.2.1,())).bind fun y8=>some (y8.1,())
abbrev P.b4x (k:Nat) (x1:List Int×List Int×Unit) (g2:List Int×List Int×Unit→i_nat_gcd.A):i_nat_gcd.A:=
 if decide ((x1.1.length:Int)>(0:Int))then(S.a5h (x1.2.1,())).bind fun y3=>(S.a5h (x1.1,())).bind fun y4=>if y3.1.2 then if y4.1.2 then loopP P.b8o k (y4.1.1,y3.1.1,())else(S.a4q (x1.2.1,x1.1,())).bind fun y9=>g2 (y9.1.2,x1.1,())else(S.a4q (x1.2.1,x1.1,())).bind fun y10=>g2 (y10.1.2,x1.1,())else some (x1.2.1,())
def P.c9q (k:Nat) (x:List Int×List Int×Unit):i_nat_gcd.A:=
 loopP (P.b4x k) k (x.2.1,x.1,())
theorem ig_canon_pos {B:Nat} (hB:2≤B) {xs:List Int} (h:a2s B xs=true) (hn:xs≠ []):a0b B xs≠0:=by
 intro q;have:=a1b h;rw[q,a1s hB]at this;exact hn this.symm
theorem ig_shorter {B:Nat} (hB:2≤B) {m n:Nat} (h:m≤n):(nd B m).length≤(nd B n).length:=by
 rw[a4h hB];exact Nat.lt_of_le_of_lt h ((a4h hB n _).1 (Nat.le_refl _))
theorem ig_small (n:Nat):∀(x y:Nat) (k:Nat),y≤n→n<k→x<18446744073709551616→y<18446744073709551616→loopP P.b8o k ((y:Int),((x:Int),()))=some (nd B32 (Nat.gcd x y),()):=by
 induction n using Nat.strongRecOn with
 |ind n ih=>
  intro x y k hn hk hx hy;obtain⟨k,rfl⟩:∃j,k=j+1:=⟨k - 1,by omega⟩
  rw[a0k];unfold P.b8o;dsimp only
  by_cases hb:y=0
  ·subst hb;rw[if_neg (by simp),Nat.gcd_zero_right];unfold S.a3d;dsimp only;rw[if_pos ⟨by omega,by omega⟩,Option.bind_some,Int.toNat_natCast]
  ·have hm:=Nat.mod_lt x (show 0<y by omega);have c1:(y:Int)>0:=by omega
   have c2:¬((y:Int)=0):=by omega
   rw[if_pos (decide_eq_true c1),if_neg (by simpa using hb),Int.tmod_eq_emod_of_nonneg (by omega),←Int.natCast_emod,ih (x%y) (by omega) y (x%y) k (Nat.le_refl _) (by omega) hy (by omega),gcd_step]
theorem ig_loop (K n:Nat):∀(as bs:List Int) (k:Nat),a2s B32 as=true→a2s B32 bs=true→as.length≤100000000→bs.length≤100000000→a0b B32 bs≤n→n<k→n<K→loopP (P.b4x K) k (bs,(as,()))=some (nd B32 (Nat.gcd (a0b B32 as) (a0b B32 bs)),()):=by
 induction n using Nat.strongRecOn with
 |ind n ih=>
  intro as bs k ca cb la lb hn hk hK;obtain⟨k,rfl⟩:∃j,k=j+1:=⟨k - 1,by omega⟩
  rw[a0k];unfold P.b4x;dsimp only
  by_cases hb:bs=[]
  ·subst hb;rw[if_neg (by simp),show a0b B32 []=0 from rfl,Nat.gcd_zero_right,a1b ca]
  ·have hpos:0<bs.length:=List.length_pos_iff.2 hb;have hb0:=ig_canon_pos a0e cb hb;have hm:=Nat.mod_lt (a0b B32 as) (show 0<a0b B32 bs by omega);have hc:(bs.length:Int)>0:=by omega
   rw[if_pos (decide_eq_true hc)];have sa:S.a5h (as,())=some ((if as.length≤2 then((a0b B32 as:Nat):Int)else 0,decide (as.length≤2)),()):=by
    unfold S.a5h;exact if_pos ⟨a1o ca,by dsimp only;omega⟩
   have sb:S.a5h (bs,())=some ((if bs.length≤2 then((a0b B32 bs:Nat):Int)else 0,decide (bs.length≤2)),()):=by
    unfold S.a5h;exact if_pos ⟨a1o cb,by dsimp only;omega⟩
   rw[sa,Option.bind_some,sb,Option.bind_some];dsimp only;have hsmall:∀xs:List Int,dig B32 xs=true→xs.length≤2→a0b B32 xs<18446744073709551616:=by
    intro xs hd hl;have h1:=a1l hd;have h2:B32^xs.length≤B32^2:=Nat.pow_le_pow_right (by decide) hl;have h3:B32^2=18446744073709551616:=rfl;omega
   have hbig:Option.bind (S.a4q (as,(bs,()))) (fun(y9:(((List Int)×(List Int))×Unit))=>(loopP (P.b4x K) k (y9.1.2,(bs,()))))=some (nd B32 (Nat.gcd (a0b B32 as) (a0b B32 bs)),()):=by
    unfold S.a4q;dsimp only;rw[if_pos ⟨ca,cb,hb,la,lb⟩,Option.bind_some];dsimp only;have hl:(nd B32 (a0b B32 as%a0b B32 bs)).length≤bs.length:=by
     have:=ig_shorter a0e (Nat.le_of_lt hm);rwa [a1b cb]at this
    have hd:a0b B32 (nd B32 (a0b B32 as%a0b B32 bs))=a0b B32 as%a0b B32 bs:=a0j a0e _;rw[ih (a0b B32 as%a0b B32 bs) (by omega) bs _ k cb (a0l a0e _) lb (by omega) (by rw[hd];exact Nat.le_refl _) (by omega) (by omega),hd,gcd_step]
   by_cases c1:as.length≤2
   ·by_cases c2:bs.length≤2
    ·have s1:=hsmall as (a1o ca) c1;have s2:=hsmall bs (a1o cb) c2;simp only[c1,c2,decide_true,if_true];exact ig_small n _ _ K hn hK s1 s2
    ·rw[if_pos (decide_eq_true c1),if_neg (by simpa using c2)];exact hbig
   ·rw[if_neg (by simpa using c1)];exact hbig
def S.a5k (x:((List Int)×((List Int)×Unit))):(Option ((List Int)×Unit)):=if a2s B32 x.1=true∧a2s B32 x.2.1=true∧x.1.length≤100000000∧x.2.1.length≤100000000 then some (nd B32 (Nat.gcd (a0b B32 x.1) (a0b B32 x.2.1)),())else none
theorem S.i_nat_gcd_ok (x r) (h:S.a5k x=some r):∃k,P.c9q k x=some r:=by
 obtain⟨as,bs,u⟩:=x;unfold S.a5k at h;dsimp only at h;split at h
 case isFalse=>cases h
 rename_i hc;obtain⟨ca,cb,la,lb⟩:=hc;cases h;refine⟨a0b B32 bs+1,?_⟩;unfold P.c9q;exact ig_loop _ (a0b B32 bs) as bs _ ca cb la lb (Nat.le_refl _) (by omega) (by omega)
def S.a3s (x:(ByteArray×(Int×(Int×Unit)))):(Option ((Int×Bool)×Unit)):=if x.2.1=10∧x.2.2.1=64∧x.1.size≤281474976710656 then some (match Go.Lib.parseUintB 64 x.1.data.toList with| .ok v=>(((v:Nat):Int),false)| .«syntax» =>(0,true)| .range=>(18446744073709551615,true),())else none
abbrev i_nat_add.A:=Int×Int×Int×List Int×List Int×List Int×Unit
abbrev i_nat_add.B:=Option (List Int×Unit)
abbrev P.a8j (x1:i_nat_add.A) (g2:i_nat_add.A→i_nat_add.B):i_nat_add.B:=
 (fun(a b c:Int) (d e f:List Int)=>if decide (a<b)then if decide ((0:Int)≤a)then if decide (a<(d.length:Int))then if decide (a<(e.length:Int))then if decide ((0:Int)≤a)then if decide (a<(e.length:Int))then if decide ((0:Int)≤a)then if decide (a<(f.length:Int))then g2 (IntKind.wrap .i64 (a+(1:Int)),b,Int.fdiv (IntKind.wrap .u64 ((IntKind.wrap .u64 (c+(IntKind.wrap .u64 (d.getD a.toNat (0:Int)))))+(IntKind.wrap .u64 (e.getD a.toNat (0:Int))))) (4294967296:Int),d,e,f.set ((0:Nat)+a.toNat) (IntKind.wrap .u32 (IntKind.wrap .u64 ((IntKind.wrap .u64 (c+(IntKind.wrap .u64 (d.getD a.toNat (0:Int)))))+(IntKind.wrap .u64 (e.getD a.toNat (0:Int)))))),())else none else none else none else none else if decide ((0:Int)≤a)then if decide (a<(f.length:Int))then g2 (IntKind.wrap .i64 (a+(1:Int)),b,Int.fdiv (IntKind.wrap .u64 (c+(IntKind.wrap .u64 (d.getD a.toNat (0:Int))))) (4294967296:Int),d,e,f.set ((0:Nat)+a.toNat) (IntKind.wrap .u32 (IntKind.wrap .u64 (c+(IntKind.wrap .u64 (d.getD a.toNat (0:Int)))))),())else none else none else none else none else if decide ((0:Int)≤(d.length:Int))then if decide ((d.length:Int)<(f.length:Int))then(S.a3t (f.set ((0:Nat)+(Int.toNat (d.length:Int))) (IntKind.wrap .u32 c),())).bind fun y3=>some (y3.1,())else none else none) x1.1 x1.2.1 x1.2.2.1 x1.2.2.2.1 x1.2.2.2.2.1 x1.2.2.2.2.2.1
abbrev P.c6k (x5:i_nat_add.A) (g6:i_nat_add.A→i_nat_add.B):i_nat_add.B:=
 (fun(a b c:Int) (d e f:List Int)=>if decide (a<b)then if decide ((0:Int)≤a)then if decide (a<(d.length:Int))then if decide (a<(e.length:Int))then if decide ((0:Int)≤a)then if decide (a<(e.length:Int))then if decide ((0:Int)≤a)then if decide (a<(f.length:Int))then g6 (IntKind.wrap .i64 (a+(1:Int)),b,Int.fdiv (IntKind.wrap .u64 ((IntKind.wrap .u64 (c+(IntKind.wrap .u64 (d.getD a.toNat (0:Int)))))+(IntKind.wrap .u64 (e.getD a.toNat (0:Int))))) (4294967296:Int),d,e,f.set ((0:Nat)+a.toNat) (IntKind.wrap .u32 (IntKind.wrap .u64 ((IntKind.wrap .u64 (c+(IntKind.wrap .u64 (d.getD a.toNat (0:Int)))))+(IntKind.wrap .u64 (e.getD a.toNat (0:Int)))))),())else none else none else none else none else if decide ((0:Int)≤a)then if decide (a<(f.length:Int))then g6 (IntKind.wrap .i64 (a+(1:Int)),b,Int.fdiv (IntKind.wrap .u64 (c+(IntKind.wrap .u64 (d.getD a.toNat (0:Int))))) (4294967296:Int),d,e,f.set ((0:Nat)+a.toNat) (IntKind.wrap .u32 (IntKind.wrap .u64 (c+(IntKind.wrap .u64 (d.getD a.toNat (0:Int)))))),())else none else none else none else none else if decide ((0:Int)≤(d.length:Int))then if decide ((d.length:Int)<(f.length:Int))then(S.a3t (f.set ((0:Nat)+(Int.toNat (d.length:Int))) (IntKind.wrap .u32 c),())).bind fun y7=>some (y7.1,())else none else none) x5.1 x5.2.1 x5.2.2.1 x5.2.2.2.1 x5.2.2.2.2.1 x5.2.2.2.2.2.1
def P.c2g (k:Nat) (x:List Int×List Int×Unit):i_nat_add.B:=
 if decide ((x.1.length:Int)<(x.2.1.length:Int))then if decide ((0:Int)≤(IntKind.wrap .i64 ((x.2.1.length:Int)+(1:Int))))then if decide ((IntKind.wrap .i64 ((x.2.1.length:Int)+(1:Int)))≤(IntKind.wrap .i64 ((x.2.1.length:Int)+(1:Int))))then if decide (((IntKind.wrap .i64 ((x.2.1.length:Int)+(1:Int)))*(4:Int))≤(281474976710656:Int))then loopP P.a8j k ((0:Int),(x.2.1.length:Int),(0:Int),x.2.1,x.1,List.replicate (Int.toNat (IntKind.wrap .i64 ((x.2.1.length:Int)+(1:Int)))) (0:Int),())else none else none else none else if decide ((0:Int)≤(IntKind.wrap .i64 ((x.1.length:Int)+(1:Int))))then if decide ((IntKind.wrap .i64 ((x.1.length:Int)+(1:Int)))≤(IntKind.wrap .i64 ((x.1.length:Int)+(1:Int))))then if decide (((IntKind.wrap .i64 ((x.1.length:Int)+(1:Int)))*(4:Int))≤(281474976710656:Int))then loopP P.c6k k ((0:Int),(x.1.length:Int),(0:Int),x.1,x.2.1,List.replicate (Int.toNat (IntKind.wrap .i64 ((x.1.length:Int)+(1:Int)))) (0:Int),())else none else none else none
theorem add_loop (b:(Int×(Int×(Int×((List Int)×((List Int)×((List Int)×Unit))))))→((Int×(Int×(Int×((List Int)×((List Int)×((List Int)×Unit))))))→Option ((List Int)×Unit))→Option ((List Int)×Unit)) (hb:b=P.a8j)
  (xs ys:List Int) (hx:dig B32 xs=true) (hy:dig B32 ys=true) (hl:ys.length≤xs.length) (hbig:xs.length≤100000000000):
  loopP b (xs.length+1) ((0:Int),((xs.length:Int),((0:Int),(xs,(ys,(List.replicate (xs.length+1) 0,()))))))=some (nd B32 (a0b B32 xs+a0b B32 ys),()):=by
 subst hb;have key:=a0h (k:=xs.length+1) (b:=P.a8j) (n:=xs.length) (st:=fun i=>((i:Int),(xs.length:Int),((a1d B32 xs ys i).2:Int),xs,ys,(a1d B32 xs ys i).1++List.replicate (xs.length+1 - i) 0,())) (F:=fun i=>some (nd B32 (a0b B32 xs+a0b B32 ys),())) (fun i g hi hg=>by
  unfold P.a8j;dsimp only at hg ⊢;obtain⟨q1,q2,q3,q4⟩:=b3a a0e hx hy i;have gx:=a0z (B:=B32) (by decide) hx i;have gy:=a0z (B:=B32) (by decide) hy i;have gx1:xs.getD i 0<4294967296:=gx.2;have gy1:ys.getD i 0<4294967296:=gy.2;have gx0:=gx.1;have gy0:=gy.1;have hlen:((a1d B32 xs ys i).1++List.replicate (xs.length+1 - i) (0:Int)).length=xs.length+1:=by rw[List.length_append,q2,List.length_replicate];omega
  have e1:(i:Int)<(xs.length:Int):=by omega
  have e2:(0:Int)≤(i:Int):=by omega
  have e3:(i:Int)<((xs.length+1:Nat):Int):=by omega
  have hset:∀v:Int,((a1d B32 xs ys i).1++List.replicate (xs.length+1 - i) (0:Int)).set i v=((a1d B32 xs ys i).1++[v])++List.replicate (xs.length+1 - (i+1)) 0:=by
   intro v;have z1:xs.length+1 - i=(xs.length+1 - (i+1))+1:=by omega
   rw[z1,List.replicate_succ,List.set_append_right _ _ (by omega),q2,Nat.sub_self,List.append_assoc];rfl
  rw[hlen];simp only[e1,e2,e3,decide_true,if_true,Nat.zero_add,Int.toNat_natCast,hset];have hnat:∀n:Nat,n=(a1d B32 xs ys i).2+(xs.getD i 0).toNat+(ys.getD i 0).toNat→(((n%B32:Nat):Int)=(n:Int)%4294967296∧((n/B32:Nat):Int)=(n:Int)/4294967296):=by
   intro n _;constructor
   ·show((n%4294967296:Nat):Int)=_;omega
   ·show((n/4294967296:Nat):Int)=_;omega
  obtain⟨n1,n2⟩:=hnat _ rfl;rw[a1d]at hg;dsimp only at hg;rw[n1,n2]at hg
  by_cases hj:(i:Int)<(ys.length:Int)
  ·rw[if_pos (decide_eq_true hj),if_pos (decide_eq_true hj)];rw[wu (x:=xs.getD i 0) (by omega) (by omega),wu (x:=ys.getD i 0) (by omega) (by omega),wu (x:=((a1d B32 xs ys i).2:Int)+xs.getD i 0) (by omega) (by omega),wu (x:=((a1d B32 xs ys i).2:Int)+xs.getD i 0+ys.getD i 0) (by omega) (by omega),b8z _ (by omega),Int.fdiv_eq_ediv_of_nonneg _ (by omega),wr (by omega) (by omega)];have e:(((a1d B32 xs ys i).2+(xs.getD i 0).toNat+(ys.getD i 0).toNat:Nat):Int)=((a1d B32 xs ys i).2:Int)+xs.getD i 0+ys.getD i 0:=by omega
   rw[e]at hg;exact hg
  ·rw[if_neg (by simpa using hj)];have y0:ys.getD i 0=0:=by rw[List.getD_eq_getElem?_getD,List.getElem?_eq_none (by omega)];rfl
   rw[wu (x:=xs.getD i 0) (by omega) (by omega),wu (x:=((a1d B32 xs ys i).2:Int)+xs.getD i 0) (by omega) (by omega),b8z _ (by omega),Int.fdiv_eq_ediv_of_nonneg _ (by omega),wr (by omega) (by omega)];have e:(((a1d B32 xs ys i).2+(xs.getD i 0).toNat+(ys.getD i 0).toNat:Nat):Int)=((a1d B32 xs ys i).2:Int)+xs.getD i 0:=by omega
   rw[e]at hg;exact hg) (fun g=>by
  unfold P.a8j;dsimp only;obtain⟨q1,q2,q3,q4⟩:=b3a a0e hx hy xs.length;have hlen:((a1d B32 xs ys xs.length).1++List.replicate (xs.length+1 - xs.length) (0:Int)).length=xs.length+1:=by rw[List.length_append,q2,List.length_replicate];omega
  have e2:(0:Int)≤(xs.length:Int):=by omega
  have e3:(xs.length:Int)<((xs.length+1:Nat):Int):=by omega
  rw[if_neg (by simp),hlen,if_pos (decide_eq_true e2),if_pos (decide_eq_true e3),Nat.zero_add,Int.toNat_natCast];have hset:∀v:Int,((a1d B32 xs ys xs.length).1++List.replicate (xs.length+1 - xs.length) (0:Int)).set xs.length v=(a1d B32 xs ys xs.length).1++[v]:=by
   intro v;have z1:xs.length+1 - xs.length=1:=by omega
   rw[z1,List.set_append_right _ _ (by omega),q2,Nat.sub_self];rfl
  rw[hset,w32 (by omega) (by omega)];have hd:dig B32 ((a1d B32 xs ys xs.length).1++[((a1d B32 xs ys xs.length).2:Int)])=true:=by
   rw[a1k,q1,Bool.true_and,a2j];refine⟨⟨by omega,?_⟩,rfl⟩;show _<(4294967296:Int)
   omega
  rw[trim_i _ hd (by simp [q2];omega),Option.bind_some];have ev:a0b B32 ((a1d B32 xs ys xs.length).1++[((a1d B32 xs ys xs.length).2:Int)])=a0b B32 xs+a0b B32 ys:=by
   rw[a0w,q2];have e:a0b B32 [((a1d B32 xs ys xs.length).2:Int)]=(a1d B32 xs ys xs.length).2:=by simp [a0b]
   rw[e,q3,List.take_length,List.take_of_length_le hl]
  rw[ev]) (by omega)
 exact key
def S.a9o (x:((List Int)×((List Int)×Unit))):(Option ((List Int)×Unit)):=if dig B32 x.1=true∧dig B32 x.2.1=true∧x.1.length≤10000000000∧x.2.1.length≤10000000000 then some (nd B32 (a0b B32 x.1+a0b B32 x.2.1),())else none
theorem S.i_nat_add_ok (x r) (h:S.a9o x=some r):∃k,P.c2g k x=some r:=by
 obtain⟨xs,ys,u⟩:=x;unfold S.a9o at h;dsimp only at h;split at h
 case isFalse=>cases h
 rename_i hc;obtain⟨dx,dy,lx,ly⟩:=hc;cases h
 by_cases hlt:xs.length<ys.length
 ·refine⟨ys.length+1,?_⟩;unfold P.c2g;dsimp only;have a1:(0:Int)≤(ys.length:Int)+1:=by omega
  have a3:((ys.length:Int)+1)*4≤281474976710656:=by omega
  rw[if_pos (decide_eq_true (by omega)),wr (by omega) (by omega),if_pos (decide_eq_true a1),if_pos (decide_eq_true (Int.le_refl _)),if_pos (decide_eq_true a3)];rw[show((ys.length:Int)+1).toNat=ys.length+1 by omega,add_loop P.a8j rfl ys xs dy dx (by omega) (by omega),Nat.add_comm]
 ·refine⟨xs.length+1,?_⟩;unfold P.c2g;dsimp only;have a1:(0:Int)≤(xs.length:Int)+1:=by omega
  have a3:((xs.length:Int)+1)*4≤281474976710656:=by omega
  rw[if_neg (by simp;omega),wr (by omega) (by omega),if_pos (decide_eq_true a1),if_pos (decide_eq_true (Int.le_refl _)),if_pos (decide_eq_true a3)];rw[show((xs.length:Int)+1).toNat=xs.length+1 by omega];exact add_loop P.c6k rfl xs ys dx dy (by omega) (by omega)
abbrev i_readNat.A:=Int×Int×ByteArray×List Int×Unit
abbrev i_readNat.B:=Option ((List Int×Bool)×Unit)
abbrev P.a6e (g5:ByteArray×List Int×Unit→i_readNat.B) (x8:Int×Int×Int×List Int×Int×ByteArray×Int×Unit) (g9:Int×Int×Int×List Int×Int×ByteArray×Int×Unit→i_readNat.B):i_readNat.B:=
 (fun(a b c e h:Int) (d:List Int) (f:ByteArray)=>if decide (a<b)then g9 (IntKind.wrap .i64 (a+(1:Int)),b,IntKind.wrap .u64 (c*(10:Int)),d,e,f,h,())else(S.a3d (c,())).bind fun y10=>(S.a2t (d,y10.1,())).bind fun y11=>(S.a3d (e,())).bind fun y12=>(S.a9o (y11.1,y12.1,())).bind fun y13=>if decide ((0:Int)≤(f.size:Int))then if decide ((f.size:Int)≤(f.size:Int))then if decide ((0:Int)≤h)then if decide (h≤(f.size:Int))then g5 (ByteArray.extract f h.toNat (Int.toNat (f.size:Int)),y13.1,())else none else none else none else none) x8.1 x8.2.1 x8.2.2.1 x8.2.2.2.2.1 x8.2.2.2.2.2.2.1 x8.2.2.2.1 x8.2.2.2.2.2.1
abbrev P.a8k (k:Nat) (x4:ByteArray×List Int×Unit) (g5:ByteArray×List Int×Unit→i_readNat.B):i_readNat.B:=
 if ! ((ByteArray.toList x4.1)==(ByteArray.toList (bs [])))then if(Int.tmod (x4.1.size:Int) (9:Int))==(0:Int)then if decide ((9:Int)≤(x4.1.size:Int))then(S.a3s (ByteArray.extract x4.1 (0:Nat) (9:Nat),(10:Int),(64:Int),())).bind fun y6=>loopP (P.a6e g5) k ((0:Int),(9:Int),(1:Int),x4.2.1,y6.1.1,x4.1,(9:Int),())else none else if decide ((0:Int)≤(Int.tmod (x4.1.size:Int) (9:Int)))then if decide ((Int.tmod (x4.1.size:Int) (9:Int))≤(x4.1.size:Int))then if decide ((0:Int)≤(Int.tmod (x4.1.size:Int) (9:Int)))then(S.a3s (ByteArray.extract x4.1 (0:Nat) (Int.toNat (Int.tmod (x4.1.size:Int) (9:Int))),(10:Int),(64:Int),())).bind fun y14=>loopP (P.a6e g5) k ((0:Int),Int.tmod (x4.1.size:Int) (9:Int),(1:Int),x4.2.1,y14.1.1,x4.1,Int.tmod (x4.1.size:Int) (9:Int),())else none else none else none else some ((x4.2.1,true),())
abbrev P.a8l (k:Nat) (x1:i_readNat.A) (g2:i_readNat.A→i_readNat.B):i_readNat.B:=
 if decide (x1.1<x1.2.1)then if decide ((0:Int)≤x1.1)then if decide (x1.1<(x1.2.2.1.size:Int))then if decide ((a2h x1.2.2.1 x1.1)<(48:Int))then some ((([]:List Int),false),())else if decide ((0:Int)≤x1.1)then if decide (x1.1<(x1.2.2.1.size:Int))then if decide ((a2h x1.2.2.1 x1.1)>(57:Int))then some ((([]:List Int),false),())else g2 (IntKind.wrap .i64 (x1.1+(1:Int)),x1.2.1,x1.2.2.1,x1.2.2.2.1,())else none else none else none else none else loopP (P.a8k k) k (x1.2.2.1,x1.2.2.2.1,())
abbrev P.c2h (k:Nat) (x23:i_readNat.A) (g24:i_readNat.A→i_readNat.B):i_readNat.B:=
 (fun(a b:Int) (c:ByteArray) (d:List Int)=>if decide (a<b)then if decide ((0:Int)≤a)then if decide (a<(c.size:Int))then if decide ((a2h c a)<(48:Int))then some ((([]:List Int),false),())else if decide ((0:Int)≤a)then if decide (a<(c.size:Int))then if decide ((a2h c a)>(57:Int))then some ((([]:List Int),false),())else g24 (IntKind.wrap .i64 (a+(1:Int)),b,c,d,())else none else none else none else none else loopP (P.a8k k) k (c,d,())) x23.1 x23.2.1 x23.2.2.1 x23.2.2.2.1
def P.c9r (k:Nat) (x:ByteArray×Unit):i_readNat.B:=
 if(ByteArray.toList x.1)==(ByteArray.toList (bs []))then some ((([]:List Int),false),())else if decide ((x.1.size:Int)>(200:Int))then some ((([]:List Int),false),())else if decide ((0:Int)<(x.1.size:Int))then if(a2h x.1 (0:Int))==(48:Int)then if decide ((x.1.size:Int)>(1:Int))then some ((([]:List Int),false),())else loopP (P.a8l k) k ((0:Int),(x.1.size:Int),x.1,([]:List Int),())else loopP (P.c2h k) k ((0:Int),(x.1.size:Int),x.1,([]:List Int),())else none
theorem rn_len {p m:Nat} (h:p<10^m):(nd B32 p).length≤m:=by
 rw[a4h a0e];exact Nat.lt_of_lt_of_le h (Nat.pow_le_pow_left (by decide) _)
theorem rn_times (g) (t:ByteArray) (p v n:Nat) (hn:n≤9) (hv:v<10^n) (hp:p<10^200) (hnl:n≤t.size) (K:Nat) (hK:n<K):
  loopP (P.a6e g) K ((0:Int),((n:Int),((1:Int),(nd B32 p,((v:Int),(t,((n:Int),())))))))=g (ByteArray.extract t n t.size,(nd B32 (p*10^n+v),())):=by
 have hp9:10^n≤10^9:=Nat.pow_le_pow_right (by decide) hn;have h9:(10:Nat)^9=1000000000:=by decide
 have key:=a0h (k:=K) (b:=P.a6e g) (n:=n) (st:=fun i=>((i:Int),(n:Int),((10^i:Nat):Int),nd B32 p,(v:Int),t,(n:Int),())) (F:=fun i=>g (ByteArray.extract t n t.size,(nd B32 (p*10^n+v),()))) (fun i g' hi hg'=>by
  unfold P.a6e;dsimp only at hg' ⊢;refine Eq.trans ?_ hg';have e1:(i:Int)<(n:Int):=by omega
  have hpi:10^(i+1)≤10^9:=Nat.pow_le_pow_right (by decide) (by omega);rw[Nat.pow_succ]at hpi ⊢;rw[if_pos (decide_eq_true e1),wr (by omega) (by omega),show((10^i:Nat):Int)*10=((10^i*10:Nat):Int) by omega,wu (by omega) (by omega)];rfl) (fun g'=>by
  unfold P.a6e;dsimp only;rw[if_neg (by simp)];unfold S.a3d S.a2t S.a9o;dsimp only;have hl1:=rn_len hp;have hl2:=rn_len (p:=10^n) (m:=10) (by omega);have hl3:(nd B32 (p*10^n)).length≤209:=rn_len (by
   have:p*10^n<10^200*10^9:=Nat.mul_lt_mul_of_lt_of_le hp hp9 (Nat.pow_pos (by decide));rwa [←Nat.pow_add]at this)
  have hl4:=rn_len (p:=v) (m:=9) (by omega);rw[if_pos ⟨by omega,by omega⟩,Option.bind_some,Int.toNat_natCast];dsimp only;rw[if_pos ⟨a3x a0e _,a3x a0e _,by omega,by omega⟩,Option.bind_some,if_pos ⟨by omega,by omega⟩,Option.bind_some,Int.toNat_natCast];dsimp only;rw[a0j a0e,a0j a0e,if_pos ⟨a3x a0e _,a3x a0e _,by omega,by omega⟩,Option.bind_some,a0j a0e,a0j a0e];have c1:(0:Int)≤(t.size:Int):=by omega
  have c2:(0:Int)≤(n:Int):=by omega
  have c3:(n:Int)≤(t.size:Int):=by omega
  rw[if_pos (decide_eq_true c1),if_pos (decide_eq_true (Int.le_refl _)),if_pos (decide_eq_true c2),if_pos (decide_eq_true c3),Int.toNat_natCast,Int.toNat_natCast]) hK
 exact key
theorem rn_loop (K:Nat) (hK:10≤K) (m:Nat):∀(t:ByteArray) (p k:Nat),t.data.toList.length=m→b9b t.data.toList=true→m≤200→p<10^(200 - m)→m<k→
  loopP (P.a8k K) k (t,(nd B32 p,()))=some ((nd B32 (p*10^m+dv t.data.toList),true),()):=by
 induction m using Nat.strongRecOn with
 |ind m ih=>
  intro t p k hm hd hm2 hp hk;obtain⟨k,rfl⟩:∃j,k=j+1:=⟨k - 1,by omega⟩
  rw[a0k];have hs:t.size=t.data.toList.length:=by rw[Array.length_toList];rfl
  have hstep:∀n:Nat,0<n→n≤9→n≤m→Option.bind (S.a3s (ByteArray.extract t 0 n,(10,(64,())))) (fun(y6:((Int×Bool)×Unit))=>(Go.Cm.loopP (P.a6e (loopP (P.a8k K) k)) K ((0:Int),((n:Int),((1:Int),(nd B32 p,(y6.1.1,(t,((n:Int),())))))))))=some ((nd B32 (p*10^m+dv t.data.toList),true),()):=by
   intro n hn0 hn9 hnm;have hx:(ByteArray.extract t 0 n).data.toList=t.data.toList.take n:=by rw[ext_list,List.drop_zero]
   have hxl:(t.data.toList.take n).length=n:=by simp;omega
   have hxs:(ByteArray.extract t 0 n).size=n:=by
    have:(ByteArray.extract t 0 n).size=(ByteArray.extract t 0 n).data.toList.length:=by rw[Array.length_toList];rfl
    rw[this,hx,hxl]
   have hdx:=d1o hd n;have hpar:=parse_dv (t.data.toList.take n) hdx (by intro q;rw[q]at hxl;simp at hxl;omega) (by omega);unfold S.a3s;dsimp only;rw[if_pos ⟨rfl,rfl,by omega⟩,hx,hpar,Option.bind_some];dsimp only;have hv:=dv_lt hdx;rw[hxl]at hv;have hp200:p<10^200:=Nat.lt_of_lt_of_le hp (Nat.pow_le_pow_right (by decide) (by omega));rw[rn_times _ t p _ n hn9 hv hp200 (by omega) K (by omega)];have hd2:(ByteArray.extract t n t.size).data.toList=t.data.toList.drop n:=by
    rw[ext_list,List.take_of_length_le (by omega)]
   have hl2:(t.data.toList.drop n).length=m - n:=by simp;omega
   have hb:p*10^n+dv (t.data.toList.take n)<10^(200 - (m - n)):=by
    have h1:(p+1)*10^n≤10^(200 - m)*10^n:=Nat.mul_le_mul_right _ hp;rw[←Nat.pow_add,show 200 - m+n=200 - (m - n) by omega,Nat.add_mul,Nat.one_mul]at h1;omega
   rw[ih (m - n) (by omega) _ _ k (by rw[hd2,hl2]) (by rw[hd2];exact c2x hd n) (by omega) hb (by omega),hd2];have h3:=c2w (t.data.toList.take n) (t.data.toList.drop n);rw[List.take_append_drop,hl2]at h3;rw[h3,Nat.add_mul,Nat.mul_assoc,←Nat.pow_add,show n+(m - n)=m by omega,Nat.add_assoc]
  generalize loopP (P.a8k K) k=G at hstep ⊢;unfold P.a8k;dsimp only;have hbs:ByteArray.toList (bs [])=[]:=by rw[ByteArray.toList_eq];rfl
  rw[hbs,ByteArray.toList_eq,hs,hm]
  by_cases h0:m=0
  ·subst h0;have:t.data.toList=[]:=List.eq_nil_of_length_eq_zero hm;rw[this,if_neg (by simp),Nat.pow_zero,Nat.mul_one,show dv []=0 from rfl,Nat.add_zero]
  ·have hne:t.data.toList≠ []:=by
    intro q;rw[q]at hm;simp at hm;omega
   have hmod:Int.tmod (m:Int) 9=((m%9:Nat):Int):=by
    rw[Int.tmod_eq_emod_of_nonneg (by omega)];omega
   rw[if_pos (by simpa using hne),hmod]
   by_cases h9:m%9=0
   ·have c1:(9:Int)≤(m:Int):=by omega
    rw[if_pos (by simp [h9]),if_pos (decide_eq_true c1)];exact hstep 9 (by omega) (by omega) (by omega)
   ·have c1:(0:Int)≤((m%9:Nat):Int):=by omega
    have c2:((m%9:Nat):Int)≤(m:Int):=by omega
    rw[if_neg (by simp;omega),if_pos (decide_eq_true c1),if_pos (decide_eq_true c2),if_pos (decide_eq_true c1),Int.toNat_natCast];exact hstep (m%9) (by omega) (by omega) (by omega)
theorem rn_scan (b:Nat→(Int×(Int×(ByteArray×((List Int)×Unit))))→((Int×(Int×(ByteArray×((List Int)×Unit))))→Option (((List Int)×Bool)×Unit))→Option (((List Int)×Bool)×Unit)) (hbb:b=P.a8l) (t:ByteArray) (hl:t.data.toList.length≤200) (K:Nat) (hK:300≤K):
  loopP (b K) K ((0:Int),((t.size:Int),(t,([],()))))=some (if b9b t.data.toList=true then(nd B32 (dv t.data.toList),true)else([],false),()):=by
 subst hbb;have hs:t.size=t.data.toList.length:=by rw[Array.length_toList];rfl
 rw[hs];have hloop:=rn_loop K (by omega) t.data.toList.length t 0 K rfl;generalize hL:t.data.toList=l at*;have key:∀d i k:Nat,i+d=l.length→d<k→b9b (l.take i)=true→loopP (P.a8l K) k ((i:Int),((l.length:Int),(t,(([]:List Int),()))))=some (if b9b l=true then(nd B32 (dv l),true)else([],false),()):=by
  intro d
  induction d with
  |zero=>
   intro i k hi hk hd;obtain⟨k,rfl⟩:∃j,k=j+1:=⟨k - 1,by omega⟩
   have:i=l.length:=by omega
   subst this;rw[List.take_length]at hd;rw[a0k];unfold P.a8l;dsimp only;rw[if_neg (by simp),if_pos hd];have:=hloop hd hl (Nat.pow_pos (by decide)) (by omega);rw[a1s a0e,Nat.zero_mul,Nat.zero_add]at this;exact this
  |succ d ih=>
   intro i k hi hk hd;obtain⟨k,rfl⟩:∃j,k=j+1:=⟨k - 1,by omega⟩
   have hil:i<l.length:=by omega
   rw[a0k];unfold P.a8l;dsimp only;have e1:(i:Int)<(l.length:Int):=by omega
   have e2:(0:Int)≤(i:Int):=by omega
   have hb:a2h t (i:Int)=(l[i].toNat:Int):=by
    unfold a2h;rw[hL,a0o l i _ hil]
   have ha2:b9b (l.take (i+1))=(b9b (l.take i)&&isD l[i]):=by
    rw[←List.take_append_getElem hil,c1o];simp [b9b]
   have ha3:b9b l=true→isD l[i]=true:=fun q=>decide_eq_true (allD_get q hil)
   rw[hs,hb,wr (x:=(i:Int)+1) (by omega) (by omega)];simp only[e1,e2,decide_true,if_true]
   by_cases c1:48≤l[i].toNat
   ·rw[if_neg (by simp;omega)]
    by_cases c2:l[i].toNat≤57
    ·have:isD l[i]=true:=decide_eq_true ⟨c1,c2⟩;rw[this,Bool.and_true]at ha2;rw[if_neg (by simp;omega)];exact ih (i+1) k (by omega) (by omega) (by rw[ha2];exact hd)
    ·have:isD l[i]=false:=decide_eq_false (fun q=>c2 q.2);rw[if_pos (decide_eq_true (by omega)),if_neg (fun q=>by rw[ha3 q]at this;cases this)]
   ·have:isD l[i]=false:=decide_eq_false (fun q=>c1 q.1);rw[if_pos (decide_eq_true (by omega)),if_neg (fun q=>by rw[ha3 q]at this;cases this)]
 exact key l.length 0 K (by omega) (by omega) rfl
def S.a9p (x:(ByteArray×Unit)):(Option (((List Int)×Bool)×Unit)):=some (if okN x.1.data.toList=true then(nd B32 (dv x.1.data.toList),true)else([],false),())
theorem S.i_readNat_ok (x r) (h:S.a9p x=some r):∃k,P.c9r k x=some r:=by
 obtain⟨t,u⟩:=x;unfold S.a9p at h;dsimp only at h;refine⟨300,?_⟩;rw[←h];unfold P.c9r;dsimp only;have hs:t.size=t.data.toList.length:=by rw[Array.length_toList];rfl
 have hbs:ByteArray.toList (bs [])=[]:=by rw[ByteArray.toList_eq];rfl
 rw[hbs,ByteArray.toList_eq];have hscan:=rn_scan P.a8l rfl t;have hscan2:=rn_scan P.c2h rfl t;unfold okN okR
 by_cases h1:t.data.toList=[]
 ·rw[h1,if_pos (by rfl)];rfl
 ·have hpos:0<t.data.toList.length:=List.length_pos_iff.2 h1;rw[if_neg (by simpa using h1),decide_eq_true h1,Bool.true_and,hs]
  by_cases h2:t.data.toList.length≤200
  ·have d2:¬(t.data.toList.length:Int)>200:=by omega
   have d3:(0:Int)<(t.data.toList.length:Int):=by omega
   rw[if_neg (by simpa using d2),if_pos (decide_eq_true d3),decide_eq_true h2,Bool.true_and];have s1:=hscan h2 300 (by omega);have s2:=hscan2 h2 300 (by omega);rw[hs]at s1 s2;have hb:a2h t 0=(t.data.toList[0].toNat:Int):=by
    exact congrArg (fun c:UInt8=>(c.toNat:Int)) (a0o t.data.toList 0 0 hpos)
   have hh:t.data.toList.head? =some t.data.toList[0]:=by
    generalize t.data.toList=l at*;cases l with
    |nil=>simp at h1
    |cons c r=>rfl
   rw[hb,hh]
   by_cases c1:t.data.toList[0]=48
   ·rw[c1,if_pos (by rfl)]
    by_cases h3:t.data.toList.length=1
    ·have d4:¬(t.data.toList.length:Int)>1:=by omega
     rw[if_neg (by simpa using d4),s1,decide_eq_true h3,Bool.true_or,Bool.and_true]
    ·have d4:(t.data.toList.length:Int)>1:=by omega
     rw[if_pos (decide_eq_true d4),decide_eq_false h3,Bool.false_or,decide_eq_false (by simp),Bool.and_false,if_neg (by simp)]
   ·have c2:¬((t.data.toList[0].toNat:Int)=48):=by
     intro q;apply c1;apply UInt8.toNat_inj.1;show _=48;omega
    rw[if_neg (by simpa using c2),s2,decide_eq_true (p:=some t.data.toList[0]≠some 48) (by simpa using c1),Bool.or_true,Bool.and_true]
  ·have d2:(t.data.toList.length:Int)>200:=by omega
   rw[if_pos (decide_eq_true d2),decide_eq_false h2,Bool.false_and,Bool.and_false,if_neg (by simp)]
def P.c9s (k:Nat) (x:ByteArray×Unit):Option ((RB×Bool)×Unit):=
 (S.b4m (x.1,bs [47],())).bind fun y0=>(S.a6x (y0.1.1,bs [45],())).bind fun y1=>(S.a9p (y1.1.1,())).bind fun y2=>if !y2.1.2 then some (((false,([]:List Int),([]:List Int)),false),())else if y1.1.2 then if(y2.1.1.length:Int)==(0:Int)then some (((false,([]:List Int),([]:List Int)),false),())else(S.a3d ((1:Int),())).bind fun y3=>if !y0.1.2.2 then some (((y1.1.2,y2.1.1,y3.1),true),())else(S.a9p (y0.1.2.1,())).bind fun y4=>if !y4.1.2 then some (((false,([]:List Int),([]:List Int)),false),())else(S.a3d ((1:Int),())).bind fun y5=>(S.a1h (y4.1.1,y5.1,())).bind fun y6=>if decide (y6.1≤(0:Int))then some (((false,([]:List Int),([]:List Int)),false),())else(S.a5k (y2.1.1,y4.1.1,())).bind fun y7=>(S.a3d ((1:Int),())).bind fun y8=>(S.a1h (y7.1,y8.1,())).bind fun y9=>if y9.1 != (0:Int)then some (((false,([]:List Int),([]:List Int)),false),())else some (((y1.1.2,y2.1.1,y4.1.1),true),())else(S.a3d ((1:Int),())).bind fun y10=>if !y0.1.2.2 then some (((y1.1.2,y2.1.1,y10.1),true),())else(S.a9p (y0.1.2.1,())).bind fun y11=>if !y11.1.2 then some (((false,([]:List Int),([]:List Int)),false),())else(S.a3d ((1:Int),())).bind fun y12=>(S.a1h (y11.1.1,y12.1,())).bind fun y13=>if decide (y13.1≤(0:Int))then some (((false,([]:List Int),([]:List Int)),false),())else(S.a5k (y2.1.1,y11.1.1,())).bind fun y14=>(S.a3d ((1:Int),())).bind fun y15=>(S.a1h (y14.1,y15.1,())).bind fun y16=>if y16.1 != (0:Int)then some (((false,([]:List Int),([]:List Int)),false),())else some (((y1.1.2,y2.1.1,y11.1.1),true),())
def S.b5w (x:(ByteArray×Unit)):(Option ((RB×Bool)×Unit)):=if x.1.size<4294967281 then some ((rp B32 (a5m x.1.data.toList).1,(a5m x.1.data.toList).2),())else none
theorem rr_bad:((false,(([]:List Int),([]:List Int))),false)=(rp B32 noQ.1,noQ.2):=by
 unfold noQ rp;dsimp only;rw[a1s a0e]
theorem natOf_one:S.a3d (1,())=some (nd B32 1,()):=by
 unfold S.a3d;rfl
theorem rr_rest (neg:Bool) (c:List UInt8×List UInt8×Bool) (hok:okN c.1=true) (hn:¬(neg=true∧dv c.1=0)):
  (Option.bind (S.a3d ((1:Int),())) (fun(y10:((List Int)×Unit))=>(if((!c.2.2)=true)then(some (((neg,(nd B32 (dv c.1),y10.1)),true),()))
 else(Option.bind (S.a9p ((⟨c.2.1.toArray⟩:ByteArray),())) (fun(y11:(((List Int)×Bool)×Unit))=>(if((!y11.1.2)=true)then(some (((false,(([]:List Int),([]:List Int))),false),()))
 else(Option.bind (S.a3d ((1:Int),())) (fun(y12:((List Int)×Unit))=>(Option.bind (S.a1h (y11.1.1,(y12.1,()))) (fun(y13:(Int×Unit))=>(if((decide (y13.1≤(0:Int)))=true)then(some (((false,(([]:List Int),([]:List Int))),false),()))
 else(Option.bind (S.a5k (nd B32 (dv c.1),(y11.1.1,()))) (fun(y14:((List Int)×Unit))=>(Option.bind (S.a3d ((1:Int),())) (fun(y15:((List Int)×Unit))=>(Option.bind (S.a1h (y14.1,(y15.1,()))) (fun(y16:(Int×Unit))=>(if((y16.1 != (0:Int))=true)then(some (((false,(([]:List Int),([]:List Int))),false),()))
 else(some (((neg,(nd B32 (dv c.1),y11.1.1)),true),()))))))))))))))))))))=some ((rp B32 (a5w neg c).1,(a5w neg c).2),()):=by
 have hbody:a5w neg c=(if c.2.2=true then(if okN c.2.1=true∧1<dv c.2.1∧Nat.gcd (dv c.1) (dv c.2.1)=1 then((neg,(dv c.1,dv c.2.1)),true)else noQ)else((neg,(dv c.1,1)),true)):=if_pos ⟨hok,hn⟩;rw[natOf_one,Option.bind_some,rr_bad,hbody];obtain⟨a,b,f⟩:=c;dsimp only at*;cases f
 ·rfl
 ·rw[if_neg (by decide),if_pos rfl];unfold S.a9p;rw[Option.bind_some];dsimp only;cases hb:okN b
  ·have hx:¬((false:Bool)=true∧1<dv b∧Nat.gcd (dv a) (dv b)=1):=fun q=>by cases q.1
   rw[if_neg hx];rfl
  ·have lb:=b6g (B:=B32) (by decide) (c6t hb);have la:=b6g (B:=B32) (by decide) (c6t hok);have e1:S.a1h (nd B32 (dv b),(nd B32 1,()))=some (b0q (dv b) 1,()):=by
    unfold S.a1h;dsimp only;rw[if_pos ⟨a0l a0e _,a0l a0e _,by omega⟩,a0j a0e,a0j a0e]
   have e2:S.a5k (nd B32 (dv a),(nd B32 (dv b),()))=some (nd B32 (Nat.gcd (dv a) (dv b)),()):=by
    unfold S.a5k;dsimp only;rw[if_pos ⟨a0l a0e _,a0l a0e _,by omega,by omega⟩,a0j a0e,a0j a0e]
   show(Option.bind (S.a3d ((1:Int),())) (fun(y12:((List Int)×Unit))=>(Option.bind (S.a1h (nd B32 (dv b),(y12.1,()))) (fun(y13:(Int×Unit))=>(if((decide (y13.1≤(0:Int)))=true)then(some ((rp B32 noQ.1,noQ.2),()))
 else(Option.bind (S.a5k (nd B32 (dv a),(nd B32 (dv b),()))) (fun(y14:((List Int)×Unit))=>(Option.bind (S.a3d ((1:Int),())) (fun(y15:((List Int)×Unit))=>(Option.bind (S.a1h (y14.1,(y15.1,()))) (fun(y16:(Int×Unit))=>(if((y16.1 != (0:Int))=true)then(some ((rp B32 noQ.1,noQ.2),()))
 else(some (((neg,(nd B32 (dv a),nd B32 (dv b))),true),()))))))))))))))=_
   rw[natOf_one,Option.bind_some];dsimp only;rw[e1,Option.bind_some];dsimp only
   by_cases h1:1<dv b
   ·have hc:¬(b0q (dv b) 1≤0):=by
     have:=(c5c (a:=dv b) (b:=1)).2 h1;omega
    have lg:(nd B32 (Nat.gcd (dv a) (dv b))).length≤200:=Nat.le_trans (a6j a0e (Nat.le_of_dvd (by omega) (Nat.gcd_dvd_right _ _))) lb;have e3:S.a1h (nd B32 (Nat.gcd (dv a) (dv b)),(nd B32 1,()))=some (b0q (Nat.gcd (dv a) (dv b)) 1,()):=by
     unfold S.a1h;dsimp only;rw[if_pos ⟨a0l a0e _,a0l a0e _,by omega⟩,a0j a0e,a0j a0e]
    rw[if_neg (by simpa using hc),e2,Option.bind_some,Option.bind_some];dsimp only;rw[e3,Option.bind_some];dsimp only
    by_cases hg:Nat.gcd (dv a) (dv b)=1
    ·rw[if_neg (by simpa using a4s.2 hg),if_pos ⟨rfl,h1,hg⟩];rfl
    ·rw[if_pos (by simpa using fun q=>hg (a4s.1 q)),if_neg (fun q=>hg q.2.2)]
   ·have hc:b0q (dv b) 1≤0:=by
     have h2:¬(b0q (dv b) 1>0):=fun q=>h1 ((c5c (a:=dv b) (b:=1)).1 q)
     omega
    rw[if_pos (decide_eq_true hc),if_neg (fun q=>h1 q.2.1)]
theorem S.i_readRat_ok (x r) (h:S.b5w x=some r):∃k,P.c9s k x=some r:=by
 obtain⟨s,u⟩:=x;unfold S.b5w at h;dsimp only at h;split at h
 case isFalse=>cases h
 rename_i hsz;refine⟨0,?_⟩;rw[←h];unfold P.c9s;dsimp only;have e0:S.b4m (s,(bs [47],()))=some ((⟨(b0u 47 s.data.toList).1.toArray⟩,(⟨(b0u 47 s.data.toList).2.1.toArray⟩,(b0u 47 s.data.toList).2.2)),()):=by
  unfold S.b4m;dsimp only;rw[if_pos hsz,show(bs [47]).data.toList=[47]from rfl,cut_cutP]
 have e1:∀l:List UInt8,S.a6x (⟨l.toArray⟩,(bs [45],()))=some ((⟨(if l.head? =some 45 then l.tail else l).toArray⟩,decide (l.head? =some 45)),()):=by
  intro l;unfold S.a6x Go.Lib.trimPrefix Go.Lib.hasPrefix;dsimp only;rw[show(bs [45]).data.toList=[45]from rfl];cases l with
  |nil=>rfl
  |cons b r=>
   by_cases hb:b=45
   ·subst hb;simp
   ·have hb':¬(45=b):=fun q=>hb q.symm
    have hp:([45].isPrefixOf (b::r))=false:=by
     show((45:UInt8)==b&&([]:List UInt8).isPrefixOf r)=false;rw[show((45:UInt8)==b)=false from beq_eq_false_iff_ne.2 hb',Bool.false_and]
    have hh:¬((b::r).head? =some 45):=by simpa using hb
    rw[hp,if_neg (by decide),if_neg hh,decide_eq_false hh]
 rw[e0,Option.bind_some];dsimp only;rw[e1,Option.bind_some];dsimp only;generalize s.data.toList=l at*;have hcut:∃(neg:Bool) (c:List UInt8×List UInt8×Bool),decide ((b0u 47 l).1.head? =some 45)=neg∧(if(b0u 47 l).1.head? =some 45 then(b0u 47 l).1.tail else(b0u 47 l).1)=c.1∧(b0u 47 l).2.1=c.2.1∧(b0u 47 l).2.2=c.2.2∧a5m l=a5w neg c:=by
  unfold a5m;cases l with
  |nil=>exact⟨false,b0u 47 [],rfl,rfl,rfl,rfl,rfl⟩
  |cons b r=>
   by_cases hb:b=45
   ·subst hb;have hc:b0u 47 (45::r)=(45::(b0u 47 r).1,(b0u 47 r).2.1,(b0u 47 r).2.2):=by rw[c2z,if_neg (by decide)]
    rw[hc];exact⟨true,b0u 47 r,rfl,rfl,rfl,rfl,rfl⟩
   ·have hh:¬((b0u 47 (b::r)).1.head? =some 45):=by
     rw[c2z];split
     ·simp
     ·simpa using hb
    refine⟨false,b0u 47 (b::r),decide_eq_false hh,if_neg hh,rfl,rfl,?_⟩;rw[if_neg (by simpa using hb)]
 obtain⟨neg,c,h1,h2,h3,h4,h5⟩:=hcut;rw[h1,h2,h3,h4,h5];have e2:S.a9p (⟨c.1.toArray⟩,())=some (if okN c.1=true then(nd B32 (dv c.1),true)else([],false),()):=rfl;rw[e2,Option.bind_some];cases hok:okN c.1
 ·have:a5w neg c=noQ:=by
   unfold a5w;rw[if_neg (fun q=>by rw[hok]at q;cases q.1)]
  rw[this,←rr_bad];rfl
 ·rw[if_pos rfl];dsimp only;rw[if_neg (show ¬((!true)=true) by decide)];have hz:(((nd B32 (dv c.1)).length:Int)==0)=decide (dv c.1=0):=by
   have:=a9t a0e (a0l a0e (dv c.1));rw[a0j a0e]at this
   by_cases h0:dv c.1=0
   ·rw[this.2 h0,h0];rfl
   ·have hne:=fun q=>h0 (this.1 q)
    rw[decide_eq_false h0];simpa using hne
  cases neg
  ·rw[if_neg (by decide)];exact rr_rest false c hok (fun q=>by cases q.1)
  ·rw[if_pos rfl,hz]
   by_cases h0:dv c.1=0
   ·have:a5w true c=noQ:=by
     unfold a5w;rw[if_neg (fun q=>q.2 ⟨rfl,h0⟩)]
    rw[if_pos (decide_eq_true h0),this,←rr_bad]
   ·rw[if_neg (by simpa using h0)];exact rr_rest true c hok (fun q=>h0 q.2)
abbrev i_rats.A:=Option ((List RB×Bool)×Unit)
abbrev P.c2i (x1:Int×Int×List ByteArray×List RB×Unit) (g2:Int×Int×List ByteArray×List RB×Unit→i_rats.A):i_rats.A:=
 if decide (x1.1<x1.2.1)then if decide ((0:Int)≤x1.1)then if decide (x1.1<(x1.2.2.1.length:Int))then(S.b5w (x1.2.2.1.getD x1.1.toNat (bs []),())).bind fun y3=>if !y3.1.2 then some ((([]:List RB),false),())else if decide (((x1.2.2.2.1.length+(List.length [(y3.1.1.1,y3.1.1.2.1,y3.1.1.2.2)]))*(56:Nat))≤(140737488355328:Nat))then g2 (IntKind.wrap .i64 (x1.1+(1:Int)),x1.2.1,x1.2.2.1,x1.2.2.2.1++[(y3.1.1.1,y3.1.1.2.1,y3.1.1.2.2)],())else none else none else none else some ((x1.2.2.2.1,true),())
def P.i_rats (k:Nat) (x:List ByteArray×Unit):i_rats.A:=
 if decide ((x.1.length:Int)>(300:Int))then some ((([]:List RB),false),())else loopP P.c2i k ((0:Int),(x.1.length:Int),x.1,([]:List RB),())
open Classical in
def S.i_rats (x:((List ByteArray)×Unit)):(Option (((List RB)×Bool)×Unit)):=if okT x.1=true then some (((a2x x.1).1.map (rp B32),(a2x x.1).2),())else none
theorem i_rats_read (s:ByteArray) (h:s.size≤1000000):S.b5w (s,())=some ((rp B32 (a5m s.data.toList).1,(a5m s.data.toList).2),()):=by
 unfold S.b5w;exact if_pos (by dsimp only;omega)
theorem S.i_rats_ok (x r) (h:S.i_rats x=some r):∃k,P.i_rats k x=some r:=by
 obtain⟨ls,u⟩:=x;unfold S.i_rats at h;dsimp only at h;split at h
 case isFalse=>cases h
 rename_i hc;cases h;refine⟨ls.length+1,?_⟩;unfold P.i_rats a2x;dsimp only
 by_cases hl:(ls.length:Int)>300
 ·rw[if_pos (decide_eq_true hl),if_neg (show ¬(ls.length≤300∧(ls.all fun s=>(a5m s.data.toList).2)=true)from fun z=>by omega)];rfl
 rw[if_neg (by simpa using hl)];have key:=a0h (k:=ls.length+1) (b:=P.c2i) (n:=ls.length) (st:=fun i=>((i:Int),(ls.length:Int),ls,(ls.take i).map (fun s=>rp B32 (a5m s.data.toList).1),())) (F:=fun i=>some (if((ls.drop i).all fun s=>(a5m s.data.toList).2)=true then(ls.map (fun s=>rp B32 (a5m s.data.toList).1),true)else([],false),())) (fun i g hi hg=>by
  unfold P.c2i;dsimp only at hg ⊢;have e1:(i:Int)<(ls.length:Int):=by omega
  have e2:(0:Int)≤(i:Int):=by omega
  simp only[e1,e2,decide_true,if_true];rw[a0o ls i _ hi,i_rats_read _ (okT_get hc hi),Option.bind_some,List.drop_eq_getElem_cons hi,List.all_cons];dsimp only;cases hf:(a5m ls[i].data.toList).2
  ·rw[if_pos (by rfl),if_neg (by simp)]
  ·rw[if_neg (by simp),wr (by omega) (by omega),Bool.true_and,←hg];have e3:((List.map (fun s:ByteArray=>rp B32 (a5m s.data.toList).1) (ls.take i)).length+1)*56≤140737488355328:=by
    rw[List.length_map,List.length_take];omega
   simp only[List.length_cons,List.length_nil,Nat.zero_add];rw[if_pos (decide_eq_true e3),List.take_add_one,List.getElem?_eq_getElem hi,Option.toList_some,List.map_append];rfl) (fun g=>by
  unfold P.c2i;dsimp only;rw[if_neg (by simp),List.take_length,List.drop_length];rfl) (by omega)
 refine key.trans ?_;rw[List.drop_zero]
 by_cases ha:(ls.all fun s=>(a5m s.data.toList).2)=true
 ·rw[if_pos ha,if_pos (show ls.length≤300∧(ls.all fun s=>(a5m s.data.toList).2)=true from⟨by omega,ha⟩),List.map_map];rfl
 ·rw[if_neg ha,if_neg (fun z=>ha z.2)];rfl
abbrev P.b4y (x1:Int×Int×List Int×Int×List Int×List Int×Unit) (g2:Int×Int×List Int×Int×List Int×List Int×Unit→Option (List Int×Unit)):Option (List Int×Unit):=
 (fun(a b d:Int) (c e f:List Int)=>if decide (a<b)then if decide ((0:Int)≤a)then if decide (a<(c.length:Int))then if decide (a<(e.length:Int))then if decide ((0:Int)≤a)then if decide (a<(e.length:Int))then if decide ((IntKind.wrap .i64 ((IntKind.wrap .i64 ((IntKind.wrap .i64 (c.getD a.toNat (0:Int))) - d)) - (IntKind.wrap .i64 (e.getD a.toNat (0:Int)))))<(0:Int))then if decide ((0:Int)≤a)then if decide (a<(f.length:Int))then g2 (IntKind.wrap .i64 (a+(1:Int)),b,c,(1:Int),e,f.set ((0:Nat)+a.toNat) (IntKind.wrap .u32 (IntKind.wrap .i64 ((IntKind.wrap .i64 ((IntKind.wrap .i64 (c.getD a.toNat (0:Int))) - d)) - (IntKind.wrap .i64 (e.getD a.toNat (0:Int)))))),())else none else none else if decide ((0:Int)≤a)then if decide (a<(f.length:Int))then g2 (IntKind.wrap .i64 (a+(1:Int)),b,c,(0:Int),e,f.set ((0:Nat)+a.toNat) (IntKind.wrap .u32 (IntKind.wrap .i64 ((IntKind.wrap .i64 ((IntKind.wrap .i64 (c.getD a.toNat (0:Int))) - d)) - (IntKind.wrap .i64 (e.getD a.toNat (0:Int)))))),())else none else none else none else none else if decide ((IntKind.wrap .i64 ((IntKind.wrap .i64 (c.getD a.toNat (0:Int))) - d))<(0:Int))then if decide ((0:Int)≤a)then if decide (a<(f.length:Int))then g2 (IntKind.wrap .i64 (a+(1:Int)),b,c,(1:Int),e,f.set ((0:Nat)+a.toNat) (IntKind.wrap .u32 (IntKind.wrap .i64 ((IntKind.wrap .i64 (c.getD a.toNat (0:Int))) - d))),())else none else none else if decide ((0:Int)≤a)then if decide (a<(f.length:Int))then g2 (IntKind.wrap .i64 (a+(1:Int)),b,c,(0:Int),e,f.set ((0:Nat)+a.toNat) (IntKind.wrap .u32 (IntKind.wrap .i64 ((IntKind.wrap .i64 (c.getD a.toNat (0:Int))) - d))),())else none else none else none else none else(S.a3t (f,())).bind fun y3=>some (y3.1,())) x1.1 x1.2.1 x1.2.2.2.1 x1.2.2.1 x1.2.2.2.2.1 x1.2.2.2.2.2.1
def P.c9t (k:Nat) (x:List Int×List Int×Unit):Option (List Int×Unit):=
 if decide ((0:Int)≤(x.1.length:Int))then if decide ((x.1.length:Int)≤(x.1.length:Int))then if decide (((x.1.length:Int)*(4:Int))≤(281474976710656:Int))then loopP P.b4y k ((0:Int),(x.1.length:Int),x.1,(0:Int),x.2.1,List.replicate (Int.toNat (x.1.length:Int)) (0:Int),())else none else none else none
def S.a9q (x:((List Int)×((List Int)×Unit))):(Option ((List Int)×Unit)):=if dig B32 x.1=true∧dig B32 x.2.1=true∧x.2.1.length≤x.1.length∧a0b B32 x.2.1≤a0b B32 x.1∧x.1.length≤10000000000 then some (nd B32 (a0b B32 x.1 - a0b B32 x.2.1),())else none
theorem S.i_nat_sub_ok (x r) (h:S.a9q x=some r):∃k,P.c9t k x=some r:=by
 obtain⟨xs,ys,u⟩:=x;unfold S.a9q at h;dsimp only at h;split at h
 case isFalse=>cases h
 rename_i hc;obtain⟨dx,dy,hl,hv,lx⟩:=hc;cases h;refine⟨xs.length+1,?_⟩;unfold P.c9t;dsimp only;have a1:(0:Int)≤(xs.length:Int):=by omega
 have a2:(xs.length:Int)*4≤281474976710656:=by omega
 simp only[a1,a2,decide_true,if_true,Int.le_refl,Int.toNat_natCast];have key:=a0h (k:=xs.length+1) (b:=P.b4y) (n:=xs.length) (st:=fun i=>((i:Int),(xs.length:Int),xs,((a2i B32 1 xs ys i).2.2:Int),ys,(a2i B32 1 xs ys i).1++List.replicate (xs.length - i) 0,())) (F:=fun i=>some (nd B32 (a0b B32 xs - a0b B32 ys),())) (fun i g hi hg=>by
  unfold P.b4y;dsimp only at hg ⊢;refine Eq.trans ?_ hg;clear hg;obtain⟨q1,q2,q3,q4,q5⟩:=b9a (t:=1) a0e dx dy i;have gx:=a0z (B:=B32) (by decide) dx i;have gy:=a0z (B:=B32) (by decide) dy i;have gx1:xs.getD i 0<4294967296:=gx.2;have gy1:ys.getD i 0<4294967296:=gy.2;have gx0:=gx.1;have gy0:=gy.1;have hlen:((a2i B32 1 xs ys i).1++List.replicate (xs.length - i) (0:Int)).length=xs.length:=by rw[List.length_append,q2,List.length_replicate];omega
  have e1:(i:Int)<(xs.length:Int):=by omega
  have e2:(0:Int)≤(i:Int):=by omega
  rw[hlen];simp only[e1,e2,decide_true,if_true,Nat.zero_add,Int.toNat_natCast];have hrep:List.replicate (xs.length - i) (0:Int)=0::List.replicate (xs.length - (i+1)) 0:=by
   rw[show xs.length - i=(xs.length - (i+1))+1 by omega,List.replicate_succ]
  rw[hrep];simp only[b2m q2];rw[(takeUp_one a0e (xs:=xs) dy i).2];dsimp only;have y0:¬((i:Int)<(ys.length:Int))→ys.getD i 0=0:=by
   intro hj;rw[List.getD_eq_getElem?_getD,List.getElem?_eq_none (by omega)];rfl
  generalize (a2i B32 1 xs ys i).1=pl at*;generalize (a2i B32 1 xs ys i).2.2=l0 at*;obtain⟨x,hx⟩:∃x,xs.getD i 0=x:=⟨_,rfl⟩
  obtain⟨y,hy⟩:∃y,ys.getD i 0=y:=⟨_,rfl⟩
  simp only[hx,hy]at gx1 gx0 gy1 gy0 y0 ⊢;have hB:((B32:Nat):Int)=4294967296:=rfl;rw[wr (x:=(i:Int)+1) (by omega) (by omega),wr (x:=x) (by omega) (by omega),wr (x:=x - (l0:Int)) (by omega) (by omega),hB]
  by_cases hj:(i:Int)<(ys.length:Int)
  ·rw[if_pos (decide_eq_true hj),if_pos (decide_eq_true hj),wr (x:=y) (by omega) (by omega),wr (x:=x - (l0:Int) - y) (by omega) (by omega),c2v,show x - (l0:Int) - y=x - y - (l0:Int) by omega]
   by_cases hn:x - y - (l0:Int)<0
   ·rw[if_pos (decide_eq_true hn),if_pos hn];rfl
   ·rw[if_neg (by simpa using hn),if_neg hn];rfl
  ·have hy0:=y0 hj;subst hy0;rw[if_neg (by simpa using hj),c2v,show x - 0 - (l0:Int)=x - (l0:Int) by omega]
   by_cases hn:x - (l0:Int)<0
   ·rw[if_pos (decide_eq_true hn),if_pos hn];rfl
   ·rw[if_neg (by simpa using hn),if_neg hn];rfl) (fun g=>by
  unfold P.b4y;dsimp only;rw[if_neg (by simp),Nat.sub_self,show List.replicate 0 (0:Int)=[]from rfl,List.append_nil,takeUp_fd a0e dx dy hl hv];unfold S.a3t;dsimp only;have hb:=a1l dx;rw[if_pos ⟨b5d (by decide) _ _,by rw[a3b];omega⟩,Option.bind_some,nd_fd a0e (by omega)]) (by omega)
 exact key
def P.i_lowest (k:Nat) (x:Bool×List Int×List Int×Unit):Option (RB×Unit):=
 if(x.2.1.length:Int)==(0:Int)then(S.a3d ((1:Int),())).bind fun y0=>some ((false,([]:List Int),y0.1),())else(S.a5k (x.2.1,x.2.2.1,())).bind fun y1=>if(y1.1.length:Int)==(1:Int)then if decide ((0:Int)<(y1.1.length:Int))then if(y1.1.getD (0:Nat) (0:Int))==(1:Int)then some ((x.1,x.2.1,x.2.2.1),())else(S.a4q (x.2.1,y1.1,())).bind fun y2=>(S.a4q (x.2.2.1,y1.1,())).bind fun y3=>some ((x.1,y2.1.1,y3.1.1),())else none else(S.a4q (x.2.1,y1.1,())).bind fun y4=>(S.a4q (x.2.2.1,y1.1,())).bind fun y5=>some ((x.1,y4.1.1,y5.1.1),())
def S.a5e (x:(Bool×((List Int)×((List Int)×Unit)))):(Option (RB×Unit)):=if a2s B32 x.2.1=true∧a2s B32 x.2.2.1=true∧x.2.2.1≠ []∧x.2.1.length≤100000000∧x.2.2.1.length≤100000000 then some (rp B32 (b9x x.1 (a0b B32 x.2.1) (a0b B32 x.2.2.1)),())else none
theorem S.i_lowest_ok (x r) (h:S.a5e x=some r):∃k,P.i_lowest k x=some r:=by
 obtain⟨neg,as,bs',u⟩:=x;unfold S.a5e at h;dsimp only at h;split at h
 case isFalse=>cases h
 rename_i hc;obtain⟨ca,cb,hne,la,lb⟩:=hc;cases h;refine⟨0,?_⟩;unfold P.i_lowest;dsimp only;have hb0:a0b B32 bs'≠0:=fun e=>hne ((a9t a0e cb).2 e)
 by_cases ha:as=[]
 ·subst ha;rw[if_pos (by rfl)];unfold S.a3d b9x rp;dsimp only;rw[if_pos ⟨by decide,by decide⟩,Option.bind_some,show a0b B32 []=0 from rfl,Nat.gcd_zero_left,Nat.zero_div,Nat.div_self (by omega),a1s a0e];simp
 ·have ha0:a0b B32 as≠0:=fun e=>ha ((a9t a0e ca).2 e)
  rw[if_neg (by simpa using ha)];have hg:=gcd_len a0e ca cb hb0;have hgp:0<Nat.gcd (a0b B32 as) (a0b B32 bs'):=Nat.gcd_pos_of_pos_right _ (by omega);have e1:S.a5k (as,(bs',()))=some (nd B32 (Nat.gcd (a0b B32 as) (a0b B32 bs')),()):=by
   unfold S.a5k;exact if_pos ⟨ca,cb,la,lb⟩
  rw[e1,Option.bind_some];dsimp only;unfold b9x rp;dsimp only;rw[decide_eq_true ha0,Bool.and_true];have hgne:nd B32 (Nat.gcd (a0b B32 as) (a0b B32 bs'))≠ []:=by
   rw[b4e a0e (by omega)];simp
  have hgd:a0b B32 (nd B32 (Nat.gcd (a0b B32 as) (a0b B32 bs')))=Nat.gcd (a0b B32 as) (a0b B32 bs'):=a0j a0e _;have hgc:a2s B32 (nd B32 (Nat.gcd (a0b B32 as) (a0b B32 bs')))=true:=a0l a0e _;have e2:∀xs,a2s B32 xs=true→xs.length≤100000000→S.a4q (xs,(nd B32 (Nat.gcd (a0b B32 as) (a0b B32 bs')),()))=some ((nd B32 (a0b B32 xs/Nat.gcd (a0b B32 as) (a0b B32 bs')),nd B32 (a0b B32 xs%Nat.gcd (a0b B32 as) (a0b B32 bs'))),()):=by
   intro xs cx lx;unfold S.a4q;dsimp only;rw[if_pos ⟨cx,hgc,hgne,lx,by omega⟩,hgd]
  rw[e2 as ca la,Option.bind_some,e2 bs' cb lb,Option.bind_some];dsimp only;have hone:nd B32 (Nat.gcd (a0b B32 as) (a0b B32 bs'))=[1]→as=nd B32 (a0b B32 as/Nat.gcd (a0b B32 as) (a0b B32 bs'))∧bs'=nd B32 (a0b B32 bs'/Nat.gcd (a0b B32 as) (a0b B32 bs')):=by
   intro e;rw[e,b7j]at hgd;rw[←hgd,Nat.div_one,Nat.div_one,a1b ca,a1b cb];exact⟨rfl,rfl⟩
  generalize hgl:nd B32 (Nat.gcd (a0b B32 as) (a0b B32 bs'))=gl at*
  by_cases h1:gl.length=1
  ·have d1:(((gl.length:Nat):Int)==(1:Int))=true:=by simp [h1]
   have d2:(0:Int)<(gl.length:Int):=by omega
   rw[if_pos d1,if_pos (decide_eq_true d2)];obtain⟨g0,rfl⟩:∃g0,gl=[g0]:=by
    match gl,h1 with
    | [g0],_=>exact⟨g0,rfl⟩
   by_cases h2:g0=1
   ·subst h2;rw[if_pos (by rfl),←(hone rfl).1,←(hone rfl).2]
   ·rw[if_neg (by simpa using h2)]
  ·have d1:¬(((gl.length:Nat):Int)==(1:Int))=true:=by simp;omega
   rw[if_neg d1]
def P.c9u (k:Nat) (x:RB×RB×Unit):Option (RB×Unit):=
 (S.a0t ((x.1.1,x.1.2.1,x.1.2.2),())).bind fun y0=>if y0.1==(0:Int)then some ((x.2.1.1,x.2.1.2.1,x.2.1.2.2),())else(S.a0t ((x.2.1.1,x.2.1.2.1,x.2.1.2.2),())).bind fun y1=>if y1.1==(0:Int)then some ((x.1.1,x.1.2.1,x.1.2.2),())else(S.a1h (x.1.2.2,x.2.1.2.2,())).bind fun y2=>if y2.1 != (0:Int)then(S.a2t (x.1.2.1,x.2.1.2.2,())).bind fun y3=>(S.a2t (x.2.1.2.1,x.1.2.2,())).bind fun y4=>(S.a2t (x.1.2.2,x.2.1.2.2,())).bind fun y5=>if x.1.1==x.2.1.1 then(S.a9o (y3.1,y4.1,())).bind fun y6=>(S.a5e (x.1.1,y6.1,y5.1,())).bind fun y7=>some ((y7.1.1,y7.1.2.1,y7.1.2.2),())else(S.a1h (y3.1,y4.1,())).bind fun y8=>if decide (y8.1≥(0:Int))then(S.a9q (y3.1,y4.1,())).bind fun y9=>(S.a5e (x.1.1,y9.1,y5.1,())).bind fun y10=>some ((y10.1.1,y10.1.2.1,y10.1.2.2),())else(S.a9q (y4.1,y3.1,())).bind fun y11=>(S.a5e (x.2.1.1,y11.1,y5.1,())).bind fun y12=>some ((y12.1.1,y12.1.2.1,y12.1.2.2),())else if x.1.1==x.2.1.1 then(S.a9o (x.1.2.1,x.2.1.2.1,())).bind fun y13=>(S.a5e (x.1.1,y13.1,x.1.2.2,())).bind fun y14=>some ((y14.1.1,y14.1.2.1,y14.1.2.2),())else(S.a1h (x.1.2.1,x.2.1.2.1,())).bind fun y15=>if decide (y15.1≥(0:Int))then(S.a9q (x.1.2.1,x.2.1.2.1,())).bind fun y16=>(S.a5e (x.1.1,y16.1,x.1.2.2,())).bind fun y17=>some ((y17.1.1,y17.1.2.1,y17.1.2.2),())else(S.a9q (x.2.1.2.1,x.1.2.1,())).bind fun y18=>(S.a5e (x.2.1.1,y18.1,x.1.2.2,())).bind fun y19=>some ((y19.1.1,y19.1.2.1,y19.1.2.2),())
theorem ra_mul (p q:Nat) (hp:(nd B32 p).length≤100000000) (hq:(nd B32 q).length≤100000000):S.a2t (nd B32 p,(nd B32 q,()))=some (nd B32 (p*q),()):=by
 unfold S.a2t;dsimp only;rw[if_pos ⟨a3x a0e _,a3x a0e _,by omega,by omega⟩,a0j a0e,a0j a0e]
theorem ra_add (p q:Nat) (hp:(nd B32 p).length≤100000000) (hq:(nd B32 q).length≤100000000):S.a9o (nd B32 p,(nd B32 q,()))=some (nd B32 (p+q),()):=by
 unfold S.a9o;dsimp only;rw[if_pos ⟨a3x a0e _,a3x a0e _,by omega,by omega⟩,a0j a0e,a0j a0e]
theorem ra_sub (p q:Nat) (hp:(nd B32 p).length≤100000000) (h:q≤p):S.a9q (nd B32 p,(nd B32 q,()))=some (nd B32 (p - q),()):=by
 unfold S.a9q;dsimp only;rw[a0j a0e,a0j a0e,if_pos ⟨a3x a0e _,a3x a0e _,a6j a0e h,h,by omega⟩]
theorem ra_cmp (p q:Nat) (hp:(nd B32 p).length≤100000000):S.a1h (nd B32 p,(nd B32 q,()))=some (b0q p q,()):=by
 unfold S.a1h;dsimp only;rw[if_pos ⟨a0l a0e _,a0l a0e _,by omega⟩,a0j a0e,a0j a0e]
theorem ra_low (n:Bool) (p q:Nat) (hp:(nd B32 p).length≤100000000) (hq:(nd B32 q).length≤100000000) (h0:q≠0):S.a5e (n,(nd B32 p,(nd B32 q,())))=some (rp B32 (b9x n p q),()):=by
 unfold S.a5e;dsimp only;rw[if_pos ⟨a0l a0e _,a0l a0e _,nd_ne a0e h0,by omega,by omega⟩,a0j a0e,a0j a0e]
theorem ra_sign (n:Bool) (p:Nat) (bs:List Int):S.a0t ((n,(nd B32 p,bs)),())=some (sgnQ n p,()):=by
 unfold S.a0t;dsimp only;rw[if_pos (a0l a0e _),a0j a0e]
def S.a3l (x:(RB×(RB×Unit))):(Option (RB×Unit)):=if c3z B32 40000000 x.1=true∧c3z B32 40000000 x.2.1=true then some (rp B32 (b5o (rv B32 x.1) (rv B32 x.2.1)),())else none
theorem S.i_rat_add_ok (x r) (h:S.a3l x=some r):∃k,P.c9u k x=some r:=by
 obtain⟨x,y,u⟩:=x;unfold S.a3l at h;dsimp only at h;split at h
 case isFalse=>cases h
 rename_i hc;obtain⟨hx,hy⟩:=hc;cases h;rw[a7u]at hx hy;obtain⟨hx,lx⟩:=hx;obtain⟨hy,ly⟩:=hy;obtain⟨n1,p1,q1,rfl,x1,x2⟩:=b1t hx;obtain⟨n2,p2,q2,rfl,y1,y2⟩:=b1t hy;rw[b9g a0e]at lx ly ⊢;rw[b9g a0e];have hq1:q1≠0:=by have:0<q1:=lx.1;omega
 have hq2:q2≠0:=by have:0<q2:=ly.1;omega
 refine⟨0,?_⟩;unfold P.c9u;dsimp only;rw[ra_sign,Option.bind_some];dsimp only
 by_cases h1:p1=0
 ·rw[if_pos (by simpa using a7j.2 h1),addQ_zero_left _ _ lx ly h1];rfl
 ·rw[if_neg (by simpa using fun q=>h1 (a7j.1 q)),ra_sign,Option.bind_some];dsimp only
  by_cases h2:p2=0
  ·rw[if_pos (by simpa using a7j.2 h2),d1q _ _ lx ly h2];rfl
  ·rw[if_neg (by simpa using fun q=>h2 (a7j.1 q)),ra_cmp q1 q2 (by omega),Option.bind_some];dsimp only;have m1:=a4t a0e p1 q2;have m2:=a4t a0e p2 q1;have m3:=a4t a0e q1 q2
   by_cases hq:q1=q2
   ·rw[if_neg (by simpa using a4s.2 hq),addQ_same _ _ lx hq];dsimp only;have a1:=c5h a0e p1 p2;have a2:=b3q a0e p1 p2;have a3:=b3q a0e p2 p1
    by_cases hn:n1=n2
    ·rw[if_pos (by simpa using hn),if_pos hn,ra_add p1 p2 (by omega) (by omega),Option.bind_some,ra_low n1 _ q1 (by omega) (by omega) hq1,Option.bind_some]
    ·rw[if_neg (by simpa using hn),if_neg hn,ra_cmp p1 p2 (by omega),Option.bind_some];dsimp only;have hlt:=c1n (a:=p1) (b:=p2)
     by_cases hle:p2≤p1
     ·have hge:b0q p1 p2≥0:=by omega
      rw[if_pos (decide_eq_true hge),if_pos hle,ra_sub p1 p2 (by omega) hle,Option.bind_some,ra_low n1 _ q1 (by omega) (by omega) hq1,Option.bind_some]
     ·have hge:¬b0q p1 p2≥0:=by omega
      rw[if_neg (by simpa using hge),if_neg hle,ra_sub p2 p1 (by omega) (by omega),Option.bind_some,ra_low n2 _ q1 (by omega) (by omega) hq1,Option.bind_some]
   ·have hq0:q1*q2≠0:=Nat.mul_ne_zero hq1 hq2;rw[if_pos (by simpa using fun q=>hq (a4s.1 q)),ra_mul p1 q2 (by omega) (by omega),Option.bind_some,ra_mul p2 q1 (by omega) (by omega),Option.bind_some,ra_mul q1 q2 (by omega) (by omega),Option.bind_some];dsimp only;unfold b5o;dsimp only;have a1:=c5h a0e (p1*q2) (p2*q1);have a2:=b3q a0e (p1*q2) (p2*q1);have a3:=b3q a0e (p2*q1) (p1*q2)
    by_cases hn:n1=n2
    ·rw[if_pos (by simpa using hn),if_pos hn,ra_add _ _ (by omega) (by omega),Option.bind_some,ra_low n1 _ _ (by omega) (by omega) hq0,Option.bind_some]
    ·rw[if_neg (by simpa using hn),if_neg hn,ra_cmp _ _ (by omega),Option.bind_some];dsimp only;have hlt:=c1n (a:=p1*q2) (b:=p2*q1)
     by_cases hle:p2*q1≤p1*q2
     ·have hge:b0q (p1*q2) (p2*q1)≥0:=by
       rcases Int.lt_or_le (b0q (p1*q2) (p2*q1)) 0 with g|g
       ·have:=hlt.1 g;omega
       ·exact g
      rw[if_pos (decide_eq_true hge),if_pos hle,ra_sub _ _ (by omega) hle,Option.bind_some,ra_low n1 _ _ (by omega) (by omega) hq0,Option.bind_some]
     ·have hge:¬b0q (p1*q2) (p2*q1)≥0:=by
       have:=hlt.2 (Nat.lt_of_not_le hle);omega
      rw[if_neg (by simpa using hge),if_neg hle,ra_sub _ _ (by omega) (Nat.le_of_lt (Nat.lt_of_not_le hle)),Option.bind_some,ra_low n2 _ _ (by omega) (by omega) hq0,Option.bind_some]
abbrev P.c8h (x2:Int×Int×List RB×RB×RB×Unit) (g3:Int×Int×List RB×RB×RB×Unit→Option (RB×Unit)):Option (RB×Unit):=
 if decide (x2.1<x2.2.1)then if decide ((0:Int)≤x2.1)then if decide (x2.1<(x2.2.2.1.length:Int))then(S.a3l ((x2.2.2.2.1.1,x2.2.2.2.1.2.1,x2.2.2.2.1.2.2),((x2.2.2.1.getD x2.1.toNat (false,([]:List Int),([]:List Int))).1,(x2.2.2.1.getD x2.1.toNat (false,([]:List Int),([]:List Int))).2.1,(x2.2.2.1.getD x2.1.toNat (false,([]:List Int),([]:List Int))).2.2),())).bind fun y4=>g3 (IntKind.wrap .i64 (x2.1+(1:Int)),x2.2.1,x2.2.2.1,(y4.1.1,y4.1.2.1,y4.1.2.2),(x2.2.2.2.2.1.1,x2.2.2.2.2.1.2.1,x2.2.2.2.2.1.2.2),())else none else none else some ((x2.2.2.2.1.1,x2.2.2.2.1.2.1,x2.2.2.2.1.2.2),())
def P.i_sum (k:Nat) (x:List RB×Unit):Option (RB×Unit):=
 (S.a5g ((0:Int),())).bind fun y0=>loopP P.c8h k ((0:Int),(x.1.length:Int),x.1,(y0.1.1,y0.1.2.1,y0.1.2.2),(false,([]:List Int),([]:List Int)),())
open Classical in
def S.i_sum (x:((List RB)×Unit)):(Option (RB×Unit)):=if goodS B32 x.1 then some (rp B32 (a8o (x.1.map (rv B32))),())else none
theorem i_sum_add (a b:Q3) (ha:c3z B32 40000000 (rp B32 a)=true) (hb:c3z B32 40000000 (rp B32 b)=true):S.a3l (rp B32 a,(rp B32 b,()))=some (rp B32 (b5o a b),()):=by
 unfold S.a3l;dsimp only;rw[if_pos ⟨ha,hb⟩,a5t a0e,a5t a0e]
theorem S.i_sum_ok (x r) (h:S.i_sum x=some r):∃k,P.i_sum k x=some r:=by
 obtain⟨xs,u⟩:=x;unfold S.i_sum at h;dsimp only at h;split at h
 case isFalse=>cases h
 rename_i hc;obtain⟨qs,rfl,hlen,hq,hg⟩:=hc;cases h;refine⟨qs.length+1,?_⟩;unfold P.i_sum;have hz:S.a5g (0,())=some (rp B32 a5u,()):=by rfl
 dsimp only;rw[hz,Option.bind_some,b2o a0e,List.length_map];have key:=a0h (k:=qs.length+1) (b:=P.c8h) (n:=qs.length) (st:=fun i=>((i:Int),(qs.length:Int),qs.map (rp B32),rp B32 (a8o (qs.take i)),(false,(([]:List Int),([]:List Int))),())) (F:=fun i=>some (rp B32 (a8o qs),())) (fun i g hi hg'=>by
  unfold P.c8h;dsimp only at hg' ⊢;have e1:(i:Int)<(qs.length:Int):=by omega
  have e2:(0:Int)≤(i:Int):=by omega
  have e3:(i:Int)<((qs.map (rp B32)).length:Int):=by rw[List.length_map];omega
  rw[if_pos (decide_eq_true e1),if_pos (decide_eq_true e2),if_pos (decide_eq_true e3),a0o (qs.map (rp B32)) i _ (by rw[List.length_map];exact hi),List.getElem_map];have ea:=i_sum_add (a8o (qs.take i)) qs[i] (a4p (by decide) (hg i).1 (hg i).2 (by decide)) (a4p (by decide) (hq _ (List.getElem_mem hi)).1 (hq _ (List.getElem_mem hi)).2 (by decide));rw[d1t hi]at ea;show Option.bind (S.a3l (rp B32 (a8o (qs.take i)),(rp B32 qs[i],()))) _=_;rw[ea,Option.bind_some,wr (by omega) (by omega)];exact hg') (fun g=>by
  unfold P.c8h;dsimp only;rw[if_neg (by simp),List.take_length]) (by omega)
 exact key
def P.c9v (k:Nat) (x:RB×Unit):Option (Bool×Unit):=
 (S.a0t ((x.1.1,x.1.2.1,x.1.2.2),())).bind fun y0=>some (decide (y0.1<(0:Int)),())
def S.b3w (x:(RB×Unit)):(Option (Bool×Unit)):=if c3z B32 40000000 x.1=true then some (x.1.1,())else none
theorem S.i_isMinus_ok (x r) (h:S.b3w x=some r):∃k,P.c9v k x=some r:=by
 obtain⟨x,u⟩:=x;unfold S.b3w at h;dsimp only at h;split at h
 case isFalse=>cases h
 rename_i hc;obtain⟨hr,hl⟩:=a7u.1 hc;obtain⟨n,p,q,rfl,l1,l2⟩:=b1t hr;rw[b9g a0e]at hl;cases h;refine⟨0,?_⟩;unfold P.c9v S.a0t;dsimp only;rw[if_pos (a0l a0e _),a0j a0e,Option.bind_some];dsimp only;have h2:=hl.2.1;dsimp only at h2;unfold sgnQ;cases n
 ·by_cases hp:p=0
  ·rw[if_pos hp];rfl
  ·rw[if_neg hp];rfl
 ·rw[if_neg (h2 rfl)];rfl
abbrev P.a1u (x1:Int×Int×Unit×List RB×Unit) (g2:Int×Int×Unit×List RB×Unit→Option (Int×Unit)):Option (Int×Unit):=
 if decide (x1.1<x1.2.1)then if decide ((0:Int)≤x1.1)then if decide (x1.1<(x1.2.2.2.1.length:Int))then(S.b3w (((x1.2.2.2.1.getD x1.1.toNat (false,([]:List Int),([]:List Int))).1,(x1.2.2.2.1.getD x1.1.toNat (false,([]:List Int),([]:List Int))).2.1,(x1.2.2.2.1.getD x1.1.toNat (false,([]:List Int),([]:List Int))).2.2),())).bind fun y3=>if y3.1 then some (x1.1,())else g2 (IntKind.wrap .i64 (x1.1+(1:Int)),x1.2.1,(),x1.2.2.2.1,())else none else none else some ((-1:Int),())
def P.a3h (k:Nat) (x:List RB×Unit×Unit):Option (Int×Unit):=
 loopP P.a1u k ((0:Int),(x.1.length:Int),(),x.1,())
open Classical in
def S.a1n (x:((List RB)×(Unit×Unit))):(Option (Int×Unit)):=if goodL B32 x.1 then some (ixM x.1,())else none
theorem S.a9z (x r) (h:S.a1n x=some r):∃k,P.a3h k x=some r:=by
 obtain⟨xs,u,u'⟩:=x;unfold S.a1n at h;dsimp only at h;split at h
 case isFalse=>cases h
 rename_i hc;obtain⟨qs,n,rfl,hg⟩:=hc;cases h;have hlen:=c8o hg;refine⟨qs.length+1,?_⟩;unfold P.a3h;dsimp only;have hm:∀i (hi:i<qs.length),S.b3w (rp B32 qs[i],())=some (qs[i].1,()):=by
  intro i hi;unfold S.b3w;dsimp only;rw[if_pos (good_get (by decide) hg hi)];rfl
 have key:=a0h (k:=qs.length+1) (b:=P.a1u) (n:=qs.length) (st:=fun i=>((i:Int),(qs.length:Int),(),qs.map (rp B32),())) (F:=fun i=>some (if ixM ((qs.drop i).map (rp B32))<0 then -1 else ixM ((qs.drop i).map (rp B32))+i,())) (fun i g hi hg'=>by
  unfold P.a1u;dsimp only at hg' ⊢;have e1:(i:Int)<(qs.length:Int):=by omega
  have e2:(0:Int)≤(i:Int):=by omega
  have e3:(i:Int)<((qs.map (rp B32)).length:Int):=by rw[List.length_map];omega
  rw[if_pos (decide_eq_true e1),if_pos (decide_eq_true e2),if_pos (decide_eq_true e3),a0o (qs.map (rp B32)) i _ (by rw[List.length_map];exact hi),List.getElem_map];show Option.bind (S.b3w (rp B32 qs[i],())) _=_;rw[hm i hi,Option.bind_some,List.drop_eq_getElem_cons hi,List.map_cons,ixM_cons];dsimp only;rw[show(rp B32 qs[i]).1=qs[i].1 from rfl];cases hf:qs[i].1
  ·simp only[Bool.false_eq_true,if_false];rw[wr (by omega) (by omega)];refine hg'.trans ?_;congr 2;split
   ·rfl
   ·rw[if_neg (by omega)];omega
  ·simp) (fun g=>by
  unfold P.a1u;dsimp only;rw[if_neg (by simp),List.drop_length];rfl) (by omega)
 rw[List.length_map];refine key.trans ?_;rw[List.drop_zero];congr 2;have hr: -1≤ixM (qs.map (rp B32)):=by
  generalize qs.map (rp B32)=zs
  induction zs with
  |nil=>decide
  |cons z zs ih=>
   rw[ixM_cons];split
   ·omega
   ·split<;>omega
 split<;>omega
def P.a2q (k:Nat) (x:List RB×Unit×Unit):Option (Bool×Unit):=
 (S.a1n (x.1,(),())).bind fun y0=>some (decide (y0.1≥(0:Int)),())
open Classical in
def S.a0s (x:((List RB)×(Unit×Unit))):(Option (Bool×Unit)):=if goodL B32 x.1 then some (x.1.any fun r=>r.1,())else none
theorem S.a7y (x r) (h:S.a0s x=some r):∃k,P.a2q k x=some r:=by
 obtain⟨xs,u,u'⟩:=x;unfold S.a0s at h;dsimp only at h;split at h
 case isFalse=>cases h
 rename_i hc;cases h;refine⟨0,?_⟩;unfold P.a2q S.a1n;dsimp only;rw[if_pos hc,Option.bind_some,←ixM_any]
def P.c9w (k:Nat) (x:RB×Unit):Option (Bool×Unit):=
 (S.a0t ((x.1.1,x.1.2.1,x.1.2.2),())).bind fun y0=>some (decide (y0.1≤(0:Int)),())
def S.b3x (x:(RB×Unit)):(Option (Bool×Unit)):=if rok B32 40000000 x.1=true then some (!posQ (rv B32 x.1),())else none
theorem S.i_notPlus_ok (x r) (h:S.b3x x=some r):∃k,P.c9w k x=some r:=by
 obtain⟨y,u⟩:=x;unfold S.b3x at h;dsimp only at h;split at h
 case isFalse=>cases h
 rename_i hc;cases h;obtain⟨n,p,q,rfl,_,_⟩:=b1t hc;refine⟨0,?_⟩;unfold P.c9w;dsimp only;have hs:S.a0t ((n,(nd B32 p,nd B32 q)),())=some (sgnQ n p,()):=by
  unfold S.a0t;dsimp only;rw[if_pos (a0l a0e _),a0j a0e]
 rw[hs,Option.bind_some,b9g a0e];dsimp only;rw[←sgnQ_npos]
abbrev P.a1t (x1:Int×Int×Unit×List RB×Unit) (g2:Int×Int×Unit×List RB×Unit→Option (Int×Unit)):Option (Int×Unit):=
 if decide (x1.1<x1.2.1)then if decide ((0:Int)≤x1.1)then if decide (x1.1<(x1.2.2.2.1.length:Int))then(S.b3x (((x1.2.2.2.1.getD x1.1.toNat (false,([]:List Int),([]:List Int))).1,(x1.2.2.2.1.getD x1.1.toNat (false,([]:List Int),([]:List Int))).2.1,(x1.2.2.2.1.getD x1.1.toNat (false,([]:List Int),([]:List Int))).2.2),())).bind fun y3=>if y3.1 then some (x1.1,())else g2 (IntKind.wrap .i64 (x1.1+(1:Int)),x1.2.1,(),x1.2.2.2.1,())else none else none else some ((-1:Int),())
def P.a2z (k:Nat) (x:List RB×Unit×Unit):Option (Int×Unit):=
 loopP P.a1t k ((0:Int),(x.1.length:Int),(),x.1,())
open Classical in
def S.a1f (x:((List RB)×(Unit×Unit))):(Option (Int×Unit)):=if goodL B32 x.1 then some (ixF (fun r=> !posQ r) (x.1.map (rv B32)),())else none
theorem S.a9r (x r) (h:S.a1f x=some r):∃k,P.a2z k x=some r:=by
 obtain⟨xs,u,u'⟩:=x;unfold S.a1f at h;dsimp only at h;split at h
 case isFalse=>cases h
 rename_i hc;cases h;obtain⟨qs,n,rfl,hg⟩:=hc;have hlen:=c8o hg;refine⟨qs.length+1,?_⟩;unfold P.a2z;dsimp only;have hm:∀i (hi:i<qs.length),S.b3x (rp B32 qs[i],())=some (!posQ qs[i],()):=by
  intro i hi;unfold S.b3x;dsimp only;rw[if_pos (a7u.1 (good_get (by decide) hg hi)).1,a5t a0e]
 have key:=a0h (k:=qs.length+1) (b:=P.a1t) (n:=qs.length) (st:=fun i=>((i:Int),(qs.length:Int),(),qs.map (rp B32),())) (F:=fun i=>some (if ixF (fun r=> !posQ r) (qs.drop i)<0 then -1 else ixF (fun r=> !posQ r) (qs.drop i)+i,())) (fun i g hi hg'=>by
  unfold P.a1t;dsimp only at hg' ⊢;have e1:(i:Int)<(qs.length:Int):=by omega
  have e2:(0:Int)≤(i:Int):=by omega
  have e3:(i:Int)<((qs.map (rp B32)).length:Int):=by rw[List.length_map];omega
  rw[if_pos (decide_eq_true e1),if_pos (decide_eq_true e2),if_pos (decide_eq_true e3),a0o (qs.map (rp B32)) i _ (by rw[List.length_map];exact hi),List.getElem_map];show Option.bind (S.b3x (rp B32 qs[i],())) _=_;rw[hm i hi,Option.bind_some,List.drop_eq_getElem_cons hi,ixF_cons];dsimp only;cases hf: !posQ qs[i]
  ·simp only[Bool.false_eq_true,if_false];rw[wr (by omega) (by omega)];refine hg'.trans ?_;congr 2;have:=ixF_ge (fun r=> !posQ r) (qs.drop (i+1));split
   ·rfl
   ·rw[if_neg (by omega)];omega
  ·simp) (fun g=>by
  unfold P.a1t;dsimp only;rw[if_neg (by simp),List.drop_length];rfl) (by omega)
 rw[List.length_map,b2o a0e];refine key.trans ?_;rw[List.drop_zero];congr 2;have hr:=ixF_ge (fun r=> !posQ r) qs;split<;>omega
def P.a2m (k:Nat) (x:List RB×Unit×Unit):Option (Bool×Unit):=
 (S.a1f (x.1,(),())).bind fun y0=>some (decide (y0.1≥(0:Int)),())
open Classical in
def S.a2n (x:((List RB)×(Unit×Unit))):(Option (Bool×Unit)):=if goodL B32 x.1 then some (!ratesB (x.1.map (rv B32)),())else none
theorem S.a7e (x r) (h:S.a2n x=some r):∃k,P.a2m k x=some r:=by
 obtain⟨xs,u,u'⟩:=x;unfold S.a2n at h;dsimp only at h;split at h
 case isFalse=>cases h
 rename_i hc;cases h;refine⟨0,?_⟩;unfold P.a2m S.a1f;dsimp only;rw[if_pos hc,Option.bind_some,←not_ratesB,←ixF_any]
def P.c1e (k:Nat) (x:List ByteArray×Unit):Option ((List RB×Bool)×Unit):=
 (S.i_rats (x.1,())).bind fun y0=>if !y0.1.2 then some ((([]:List RB),false),())else(S.a0s (y0.1.1,(),())).bind fun y1=>if y1.1 then some ((([]:List RB),false),())else(S.i_sum (y0.1.1,())).bind fun y2=>(S.a8c ((y2.1.1,y2.1.2.1,y2.1.2.2),())).bind fun y3=>if !y3.1 then some ((([]:List RB),false),())else some ((y0.1.1,true),())
def S.b0m (x:((List ByteArray)×Unit)):(Option (((List RB)×Bool)×Unit)):=if okT x.1=true then some (((c0o x.1).1.map (rp B32),(c0o x.1).2),())else none
theorem S.i_weightsOf_ok (x r) (h:S.b0m x=some r):∃k,P.c1e k x=some r:=by
 obtain⟨ls,u⟩:=x;unfold S.b0m at h;dsimp only at h;split at h
 case isFalse=>cases h
 rename_i hc;cases h;refine⟨0,?_⟩;unfold P.c1e S.i_rats;dsimp only;rw[if_pos hc,Option.bind_some];dsimp only;unfold c0o;have hg:=rdAll_good (ls:=ls);have hL:=d1u (B:=B32) (ls:=ls);cases hf:(a2x ls).2
 ·rfl
 have hg':=hg hf;have hL':=hL hf;rw[if_neg (by decide)];have ea:S.a0s ((a2x ls).1.map (rp B32),(),())=some ((a2x ls).1.any fun r=>r.1,()):=by
  unfold S.a0s;dsimp only;rw[if_pos hL',any_rp]
 have es:S.i_sum ((a2x ls).1.map (rp B32),())=some (rp B32 (a8o (a2x ls).1),()):=by
  unfold S.i_sum;dsimp only;rw[if_pos (goodL_S hL'),b2o a0e]
 have eo:S.a8c (rp B32 (a8o (a2x ls).1),())=some (c3e (a8o (a2x ls).1),()):=by
  unfold S.a8c;dsimp only;rw[a5t a0e,if_pos ⟨good_rok (by decide) hg',low_qok (good_sum hg').1⟩]
 rw[ea,Option.bind_some];dsimp only;unfold isW;cases hm:((a2x ls).1.any fun r=>r.1)
 ·rw[if_neg (by decide),es,Option.bind_some];show Option.bind (S.a8c (rp B32 (a8o (a2x ls).1),())) _=_;rw[eo,Option.bind_some];cases ho:c3e (a8o (a2x ls).1)
  ·rfl
  ·simp [hf]
 ·rfl
abbrev i_chainOf.A:=Int×Int×List (List ByteArray)×List (List ByteArray)×List (List RB)×Unit
abbrev i_chainOf.B:=Option ((List (List RB)×Bool)×Unit)
abbrev P.b4z (x1:i_chainOf.A) (g2:i_chainOf.A→i_chainOf.B):i_chainOf.B:=
 if decide (x1.1<x1.2.1)then if decide ((0:Int)≤x1.1)then if decide (x1.1<(x1.2.2.1.length:Int))then(S.b0m (x1.2.2.1.getD x1.1.toNat ([]:List ByteArray),())).bind fun y3=>if !y3.1.2 then some ((([]:List (List RB)),false),())else if(y3.1.1.length:Int) != (x1.2.2.2.1.length:Int)then some ((([]:List (List RB)),false),())else if decide (((x1.2.2.2.2.1.length+(List.length [y3.1.1]))*(24:Nat))≤(140737488355328:Nat))then g2 (IntKind.wrap .i64 (x1.1+(1:Int)),x1.2.1,x1.2.2.1,x1.2.2.2.1,x1.2.2.2.2.1++[y3.1.1],())else none else none else none else some ((x1.2.2.2.2.1,true),())
def P.c9x (k:Nat) (x:List (List ByteArray)×Unit):i_chainOf.B:=
 if decide ((x.1.length:Int)<(1:Int))then some ((([]:List (List RB)),false),())else if decide ((x.1.length:Int)>(12:Int))then some ((([]:List (List RB)),false),())else loopP P.b4z k ((0:Int),(x.1.length:Int),x.1,x.1,([]:List (List RB)),())
def S.b5x (x:((List (List ByteArray))×Unit)):(Option (((List (List RB))×Bool)×Unit)):=if x.1.all okT=true then some (((chQ x.1).1.map (fun r=>r.map (rp B32)),(chQ x.1).2),())else none
theorem S.i_chainOf_ok (x r) (h:S.b5x x=some r):∃k,P.c9x k x=some r:=by
 obtain⟨rows,u⟩:=x;unfold S.b5x at h;dsimp only at h;split at h
 case isFalse=>cases h
 rename_i hc;cases h;refine⟨rows.length+1,?_⟩;unfold P.c9x chQ;dsimp only
 by_cases h1:1≤rows.length
 case neg=>
  rw[if_pos (decide_eq_true (show(rows.length:Int)<1 by omega)),decide_eq_false h1];rfl
 rw[if_neg (by simpa using(show ¬(rows.length:Int)<1 by omega)),decide_eq_true h1]
 by_cases h2:rows.length≤12
 case neg=>
  rw[if_pos (decide_eq_true (show(rows.length:Int)>12 by omega)),decide_eq_false h2];rfl
 rw[if_neg (by simpa using(show ¬(rows.length:Int)>12 by omega)),decide_eq_true h2];simp only[Bool.true_and];have key:=a0h (k:=rows.length+1) (b:=P.b4z) (n:=rows.length) (st:=fun i=>((i:Int),(rows.length:Int),rows,rows,(rows.take i).map (fun r=>(a2x r).1.map (rp B32)),())) (F:=fun i=>some (if((rows.drop i).all fun r=>decide (r.length=rows.length)&&(c0o r).2)=true then(rows.map (fun r=>(a2x r).1.map (rp B32)),true)else([],false),())) (fun i g hi hg'=>by
  have e1:(i:Int)<(rows.length:Int):=by omega
  have e2:(0:Int)≤(i:Int):=by omega
  have hr:okT rows[i]=true:=List.all_eq_true.1 hc _ (List.getElem_mem hi);have e4:(((rows.take i).map (fun r=>(a2x r).1.map (rp B32))).length+1)*24≤140737488355328:=by
   rw[List.length_map,List.length_take];omega
  unfold P.b4z;dsimp only at hg' ⊢;simp only[e1,e2,decide_true,if_true];rw[a0o rows i _ hi,List.drop_eq_getElem_cons hi,List.all_cons];have ew:S.b0m (rows[i],())=some (((c0o rows[i]).1.map (rp B32),(c0o rows[i]).2),()):=by
   unfold S.b0m;exact if_pos hr
  rw[ew,Option.bind_some];dsimp only;cases hw:(c0o rows[i]).2
  ·rw[if_pos (by decide),Bool.and_false,Bool.false_and,if_neg (by decide)]
  obtain⟨w1,w2,w3⟩:=wtAll_ok hw;have w4:=(c8n w1).1;rw[if_neg (by decide),w3,List.length_map,w4,Bool.and_true]
  by_cases hl:rows[i].length=rows.length
  case neg=>
   rw[if_pos (by simp;omega),decide_eq_false hl,Bool.false_and,if_neg (by decide)]
  rw[if_neg (by simp;omega),decide_eq_true hl,Bool.true_and];simp only[List.length_cons,List.length_nil,Nat.zero_add];rw[if_pos (decide_eq_true e4),wr (by omega) (by omega),←hg',List.take_add_one,List.getElem?_eq_getElem hi,Option.toList_some,List.map_append];rfl) (fun g=>by
  unfold P.b4z;dsimp only;rw[if_neg (by simp),List.take_length,List.drop_length];rfl) (by omega)
 rw[List.drop_zero]at key;refine Eq.trans key ?_
 by_cases ha:(rows.all fun r=>decide (r.length=rows.length)&&(c0o r).2)=true
 ·rw[if_pos ha,if_pos ha,List.map_map];rfl
 ·rw[if_neg ha,if_neg ha];rfl
def P.b3y (k:Nat) (x:Int×Int×Unit):Option ((Int×Int)×Unit):=
 some ((IntKind.wrap .u64 ((IntKind.wrap .u64 ((IntKind.wrap .u64 ((Int.fdiv x.1 (4294967296:Int))*(Int.fdiv x.2.1 (4294967296:Int))))+(Int.fdiv (IntKind.wrap .u64 ((IntKind.wrap .u64 ((Int.fdiv x.1 (4294967296:Int))*(IntKind.wrap .u64 ((BitVec.toNat ((BitVec.ofInt 64 x.2.1)&&& (BitVec.ofInt 64 (4294967295:Int))):Nat):Int))))+(Int.fdiv (IntKind.wrap .u64 ((IntKind.wrap .u64 ((BitVec.toNat ((BitVec.ofInt 64 x.1)&&& (BitVec.ofInt 64 (4294967295:Int))):Nat):Int))*(IntKind.wrap .u64 ((BitVec.toNat ((BitVec.ofInt 64 x.2.1)&&& (BitVec.ofInt 64 (4294967295:Int))):Nat):Int)))) (4294967296:Int)))) (4294967296:Int))))+(Int.fdiv (IntKind.wrap .u64 ((IntKind.wrap .u64 ((BitVec.toNat ((BitVec.ofInt 64 (IntKind.wrap .u64 ((IntKind.wrap .u64 ((Int.fdiv x.1 (4294967296:Int))*(IntKind.wrap .u64 ((BitVec.toNat ((BitVec.ofInt 64 x.2.1)&&& (BitVec.ofInt 64 (4294967295:Int))):Nat):Int))))+(Int.fdiv (IntKind.wrap .u64 ((IntKind.wrap .u64 ((BitVec.toNat ((BitVec.ofInt 64 x.1)&&& (BitVec.ofInt 64 (4294967295:Int))):Nat):Int))*(IntKind.wrap .u64 ((BitVec.toNat ((BitVec.ofInt 64 x.2.1)&&& (BitVec.ofInt 64 (4294967295:Int))):Nat):Int)))) (4294967296:Int)))))&&& (BitVec.ofInt 64 (4294967295:Int))):Nat):Int))+(IntKind.wrap .u64 ((IntKind.wrap .u64 ((BitVec.toNat ((BitVec.ofInt 64 x.1)&&& (BitVec.ofInt 64 (4294967295:Int))):Nat):Int))*(Int.fdiv x.2.1 (4294967296:Int)))))) (4294967296:Int))),IntKind.wrap .u64 (x.1*x.2.1)),())
def S.b3z (x:(Int×(Int×Unit))):(Option ((Int×Int)×Unit)):=P.b3y 0 x
theorem S.c2j (x r) (h:S.b3z x=some r):∃k,P.b3y k x=some r:=⟨0,h⟩
def P.b7a (k:Nat) (x:Int×Int×Unit):Option ((Int×Int)×Unit):=
 (S.b3z (x.1,x.2.1,())).bind fun y0=>some ((y0.1.1,y0.1.2),())
def S.a2v (x:(Int×(Int×Unit))):(Option ((Int×Int)×Unit)):=P.b7a 0 x
theorem S.c7h (x r) (h:S.a2v x=some r):∃k,P.b7a k x=some r:=⟨0,h⟩
abbrev P.a2e (x2:(Int×((List RB)×Unit))) (g3:(Int×((List RB)×Unit))→Option ((List RB)×Unit)):Option ((List RB)×Unit):=
 (if((decide (x2.1<((List.length x2.2.1):Int)))=true)then(if((decide ((0:Int)≤((List.length x2.2.1):Int)))=true)then(if((decide ((((List.length x2.2.1):Int)+(0:Int))≤((List.length x2.2.1):Int)))=true)then(if((decide ((0:Int)≤x2.1))=true)then(if((decide (x2.1≤((List.length x2.2.1):Int)))=true)then(if((decide ((0:Int)≤x2.1))=true)then(if((decide ((x2.1+(0:Int))≤((List.length x2.2.1):Int)))=true)then(if((decide ((0:Int)≤x2.1))=true)then(g3 ((IntKind.wrap .i64 (x2.1+(((Min.min (List.length (seen x2.2.1 (0:Nat) ((Int.toNat x2.1) - (0:Nat)))) ((Int.toNat ((List.length x2.2.1):Int)) - (Int.toNat x2.1))):Nat):Int))),((splice x2.2.1 (List.take ((Int.toNat ((List.length x2.2.1):Int)) - (Int.toNat x2.1)) (seen x2.2.1 (0:Nat) ((Int.toNat x2.1) - (0:Nat)))) ((0:Nat)+(Int.toNat x2.1))),())))
 else none)
 else none)
 else none)
 else none)
 else none)
 else none)
 else none)
 else(some (x2.2.1,())))
def P.a4b (k:Nat) (x:((List RB)×(Int×Unit))):(Option ((List RB)×Unit)):=
 (if((decide (x.2.1<(0:Int)))=true)then none
 else(Option.bind (S.a2v ((IntKind.wrap .u64 ((List.length x.1):Int)),((IntKind.wrap .u64 x.2.1),()))) (fun(y0:((Int×Int)×Unit))=>(if((decide (y0.1.1>(0:Int)))=true)then none
 else(if((decide (y0.1.2>(9223372036854775807:Int)))=true)then none
 else(if((decide ((0:Int)≤(IntKind.wrap .i64 y0.1.2)))=true)then(if((decide ((IntKind.wrap .i64 y0.1.2)≤(IntKind.wrap .i64 y0.1.2)))=true)then(if((decide (((IntKind.wrap .i64 y0.1.2)*(56:Int))≤(281474976710656:Int)))=true)then(loopP (X:=(Int×((List RB)×Unit))) (R:=((List RB)×Unit)) (P.a2e) k ((((Min.min (List.length x.1) (List.length (List.replicate (Int.toNat (IntKind.wrap .i64 y0.1.2)) (false,(([]:List Int),([]:List Int)))))):Nat):Int),((splice (List.replicate (Int.toNat (IntKind.wrap .i64 y0.1.2)) (false,(([]:List Int),([]:List Int)))) (List.take (List.length (List.replicate (Int.toNat (IntKind.wrap .i64 y0.1.2)) (false,(([]:List Int),([]:List Int))))) x.1) (0:Nat)),())))
 else none)
 else none)
 else none))))))
def PP.a6f (k:Nat) (x:((List RB)×(Int×Unit))):(Option ((List RB)×Unit)):=
 (Decidable.rec (motive:=fun _=>(Option ((List RB)×Unit))) (fun _=>(Option.bind (S.a2v ((IntKind.wrap .u64 ((List.length x.1):Int)),((IntKind.wrap .u64 x.2.1),()))) (fun(y0:((Int×Int)×Unit))=>(Decidable.rec (motive:=fun _=>(Option ((List RB)×Unit))) (fun _=>(Decidable.rec (motive:=fun _=>(Option ((List RB)×Unit))) (fun _=>(Decidable.rec (motive:=fun _=>(Option ((List RB)×Unit))) (fun _=>none) (fun _=>(Decidable.rec (motive:=fun _=>(Option ((List RB)×Unit))) (fun _=>none) (fun _=>(Decidable.rec (motive:=fun _=>(Option ((List RB)×Unit))) (fun _=>none) (fun _=>(loopP (X:=(Int×((List RB)×Unit))) (R:=((List RB)×Unit)) (P.a2e) k ((((Min.min (List.length x.1) (List.length (List.replicate (Int.toNat (IntKind.wrap .i64 y0.1.2)) (false,(([]:List Int),([]:List Int)))))):Nat):Int),((splice (List.replicate (Int.toNat (IntKind.wrap .i64 y0.1.2)) (false,(([]:List Int),([]:List Int)))) (List.take (List.length (List.replicate (Int.toNat (IntKind.wrap .i64 y0.1.2)) (false,(([]:List Int),([]:List Int))))) x.1) (0:Nat)),())))) (instDecidableEqBool (decide (((IntKind.wrap .i64 y0.1.2)*(56:Int))≤(281474976710656:Int))) true))) (instDecidableEqBool (decide ((IntKind.wrap .i64 y0.1.2)≤(IntKind.wrap .i64 y0.1.2))) true))) (instDecidableEqBool (decide ((0:Int)≤(IntKind.wrap .i64 y0.1.2))) true))) (fun _=>none) (instDecidableEqBool (decide (y0.1.2>(9223372036854775807:Int))) true))) (fun _=>none) (instDecidableEqBool (decide (y0.1.1>(0:Int))) true))))) (fun _=>none) (instDecidableEqBool (decide (x.2.1<(0:Int))) true))
theorem PP.b1q (k:Nat) (x:((List RB)×(Int×Unit))):PP.a6f k x=P.a4b k x:=rfl
theorem mul_one_bits:∀n:Fin 21,S.a2v (1,((n.val:Int),()))=some ((0,(n.val:Int)),()):=by decide
def S.a1i (x:((List RB)×(Int×Unit))):(Option ((List RB)×Unit)):=if x.1.length=1∧0≤x.2.1∧x.2.1≤20 then some (List.replicate x.2.1.toNat (x.1.getD 0 (false,([],[]))),())else none
theorem S.b2g (x r) (h:S.a1i x=some r):∃k,P.a4b k x=some r:=by
 obtain⟨xs,m,u⟩:=x;unfold S.a1i at h;dsimp only at h;split at h
 case isFalse=>cases h
 rename_i hc;cases h;obtain⟨hx,h1,h2⟩:=hc;obtain⟨a,rfl⟩:∃a,xs=[a]:=by
  match xs,hx with
  | [a],_=>exact⟨a,rfl⟩
 obtain⟨M,rfl⟩:∃M:Nat,m=(M:Int):=⟨m.toNat,by omega⟩
 rw[Int.toNat_natCast];refine⟨M+2,?_⟩;unfold P.a4b;dsimp only;have hmul:=mul_one_bits ⟨M,by omega⟩;dsimp only at hmul;have e0:IntKind.wrap .u64 (M:Int)=(M:Int):=IntWalk.u64_in _ (by omega);rw[if_neg (by simp),e0];show Option.bind (S.a2v (1,((M:Int),()))) _=_;rw[hmul,Option.bind_some];dsimp only;rw[if_neg (show ¬((decide ((0:Int)>0))=true) by simp),if_neg (by simpa using(show ¬(M:Int)>9223372036854775807 by omega)),wr (by omega) (by omega),if_pos (decide_eq_true (show(0:Int)≤(M:Int) by omega)),if_pos (by simp),if_pos (decide_eq_true (show(M:Int)*56≤281474976710656 by omega)),Int.toNat_natCast];simp only[List.length_replicate,List.length_cons,List.length_nil,Nat.zero_add];have key:∀(d j k:Nat),j+d=M→1≤j→d<k→loopP P.a2e k ((j:Int),List.replicate j a++List.replicate d (false,(([]:List Int),([]:List Int))),())=some (List.replicate M a,()):=by
  intro d
  induction d using Nat.strongRecOn with
  |ind d ih=>
   intro j k hj h1 hk;cases k with
   |zero=>omega
   |succ k=>
    rw[a0k];unfold P.a2e;have hlen:(List.replicate j a++List.replicate d (false,(([]:List Int),([]:List Int)))).length=M:=by simp;omega
    dsimp only;rw[hlen]
    by_cases hd:d=0
    ·subst hd;rw[if_neg (by simpa using(show ¬(j:Int)<(M:Int) by omega))];rw[show j=M by omega];simp
    ·have c1:(j:Int)<(M:Int):=by omega
     have c2:(0:Int)≤(M:Int):=by omega
     have c3:(M:Int)+0≤(M:Int):=by omega
     have c4:(0:Int)≤(j:Int):=by omega
     have c5:(j:Int)≤(M:Int):=by omega
     have c6:(j:Int)+0≤(M:Int):=by omega
     simp only[c1,c2,c3,c4,c5,c6,decide_true,if_true];have hs:seen (List.replicate j a++List.replicate d (false,(([]:List Int),([]:List Int)))) 0 ((j:Int).toNat - 0)=List.replicate j a:=by
      unfold seen;rw[Int.toNat_natCast,Nat.sub_zero,List.drop_zero,List.take_left' (by simp)]
     rw[hs,List.length_replicate,Int.toNat_natCast,Int.toNat_natCast];have hsp:splice (List.replicate j a++List.replicate d (false,(([]:List Int),([]:List Int)))) (List.take (M - j) (List.replicate j a)) (0+j)=List.replicate (j+min j d) a++List.replicate (d - min j d) (false,(([]:List Int),([]:List Int))):=by
      unfold splice;rw[Nat.zero_add,List.take_left' (by simp),List.take_replicate,List.length_replicate,show M - j=d by omega,List.drop_append];simp only[List.length_replicate];rw[List.drop_of_length_le (by simp),List.nil_append,List.drop_replicate,←List.replicate_append_replicate,show j+min d j - j=min d j by omega,Nat.min_comm d j]
     rw[hsp,show M - j=d by omega,wr (by omega) (by omega)];have:=ih (d - min j d) (by omega) (j+min j d) k (by omega) (by omega) (by omega);rw[←this];congr 2
 match M,h2 with
 |0,_=>
  rfl
 |M+1,h2=>
  have:=key M 1 (M+1+2) (by omega) (by omega) (by omega);have a1:min 1 (M+1)=1:=by omega
  have a2:splice (List.replicate (M+1) (false,(([]:List Int),([]:List Int)))) (List.take (M+1) [a]) 0=List.replicate 1 a++List.replicate M (false,(([]:List Int),([]:List Int))):=by
   unfold splice;simp [List.replicate_succ]
  rw[a1,a2];exact this
abbrev P.b9v (x1:Int×Int×List Bool×List Int×Unit) (g2:Int×Int×List Bool×List Int×Unit→Option (List Int×Unit)):Option (List Int×Unit):=
 (fun(a b:Int) (c:List Bool) (d:List Int)=>if decide (a<b)then if decide ((0:Int)≤a)then if decide (a<(c.length:Int))then if c.getD a.toNat false then if decide (((d.length+(List.length [a]))*(8:Nat))≤(140737488355328:Nat))then g2 (IntKind.wrap .i64 (a+(1:Int)),b,c,d++[a],())else none else g2 (IntKind.wrap .i64 (a+(1:Int)),b,c,d,())else none else none else some (d,())) x1.1 x1.2.1 x1.2.2.1 x1.2.2.2.1
def P.i_setOf (k:Nat) (x:List Bool×Unit):Option (List Int×Unit):=
 loopP P.b9v k ((0:Int),(x.1.length:Int),x.1,([]:List Int),())
def S.c4h (x:((List Bool)×Unit)):(Option ((List Int)×Unit)):=if x.1.length≤1000000 then some (a5o 0 x.1,())else none
theorem S.i_setOf_ok (x r) (h:S.c4h x=some r):∃k,P.i_setOf k x=some r:=by
 obtain⟨sn,u⟩:=x;unfold S.c4h at h;dsimp only at h;split at h
 case isFalse=>cases h
 rename_i hc;cases h;refine⟨sn.length+1,?_⟩;unfold P.i_setOf;dsimp only;have key:=a0h (k:=sn.length+1) (b:=P.b9v) (n:=sn.length) (st:=fun i=>((i:Int),(sn.length:Int),sn,a5o 0 (sn.take i),())) (F:=fun i=>some (a5o 0 sn,())) (fun i g hi hg=>by
  unfold P.b9v;dsimp only at hg ⊢;have e1:(i:Int)<(sn.length:Int):=by omega
  have e2:(0:Int)≤(i:Int):=by omega
  have e3:=c3i 0 (sn.take i);rw[List.length_take]at e3;have e4:((a5o 0 (sn.take i)).length+1)*8≤140737488355328:=by omega
  simp only[e1,e2,decide_true,if_true,List.length_cons,List.length_nil,Nat.zero_add,e4];rw[a0o sn i _ hi,wr (by omega) (by omega)];rw[←List.take_append_getElem hi,c3j]at hg;cases hb:sn[i]
  ·rw[hb,if_neg (by decide),List.append_nil]at hg;rw[if_neg (by decide)];exact hg
  ·rw[hb,if_pos rfl]at hg;rw[if_pos rfl,←hg];congr 1;simp;omega) (fun g=>by
  unfold P.b9v;dsimp only;rw[if_neg (by simp),List.take_length]) (by omega)
 exact key
abbrev P.a2f (x2:(Int×((List Int)×Unit))) (g3:(Int×((List Int)×Unit))→Option ((List Int)×Unit)):Option ((List Int)×Unit):=
 (if((decide (x2.1<((List.length x2.2.1):Int)))=true)then(if((decide ((0:Int)≤((List.length x2.2.1):Int)))=true)then(if((decide ((((List.length x2.2.1):Int)+(0:Int))≤((List.length x2.2.1):Int)))=true)then(if((decide ((0:Int)≤x2.1))=true)then(if((decide (x2.1≤((List.length x2.2.1):Int)))=true)then(if((decide ((0:Int)≤x2.1))=true)then(if((decide ((x2.1+(0:Int))≤((List.length x2.2.1):Int)))=true)then(if((decide ((0:Int)≤x2.1))=true)then(g3 ((IntKind.wrap .i64 (x2.1+(((Min.min (List.length (seen x2.2.1 (0:Nat) ((Int.toNat x2.1) - (0:Nat)))) ((Int.toNat ((List.length x2.2.1):Int)) - (Int.toNat x2.1))):Nat):Int))),((splice x2.2.1 (List.take ((Int.toNat ((List.length x2.2.1):Int)) - (Int.toNat x2.1)) (seen x2.2.1 (0:Nat) ((Int.toNat x2.1) - (0:Nat)))) ((0:Nat)+(Int.toNat x2.1))),())))
 else none)
 else none)
 else none)
 else none)
 else none)
 else none)
 else none)
 else(some (x2.2.1,())))
def P.a4c (k:Nat) (x:((List Int)×(Int×Unit))):(Option ((List Int)×Unit)):=
 (if((decide (x.2.1<(0:Int)))=true)then none
 else(Option.bind (S.a2v ((IntKind.wrap .u64 ((List.length x.1):Int)),((IntKind.wrap .u64 x.2.1),()))) (fun(y0:((Int×Int)×Unit))=>(if((decide (y0.1.1>(0:Int)))=true)then none
 else(if((decide (y0.1.2>(9223372036854775807:Int)))=true)then none
 else(if((decide ((0:Int)≤(IntKind.wrap .i64 y0.1.2)))=true)then(if((decide ((IntKind.wrap .i64 y0.1.2)≤(IntKind.wrap .i64 y0.1.2)))=true)then(if((decide (((IntKind.wrap .i64 y0.1.2)*(8:Int))≤(281474976710656:Int)))=true)then(loopP (X:=(Int×((List Int)×Unit))) (R:=((List Int)×Unit)) (P.a2f) k ((((Min.min (List.length x.1) (List.length (List.replicate (Int.toNat (IntKind.wrap .i64 y0.1.2)) (0:Int)))):Nat):Int),((splice (List.replicate (Int.toNat (IntKind.wrap .i64 y0.1.2)) (0:Int)) (List.take (List.length (List.replicate (Int.toNat (IntKind.wrap .i64 y0.1.2)) (0:Int))) x.1) (0:Nat)),())))
 else none)
 else none)
 else none))))))
def PP.a6g (k:Nat) (x:((List Int)×(Int×Unit))):(Option ((List Int)×Unit)):=
 (Decidable.rec (motive:=fun _=>(Option ((List Int)×Unit))) (fun _=>(Option.bind (S.a2v ((IntKind.wrap .u64 ((List.length x.1):Int)),((IntKind.wrap .u64 x.2.1),()))) (fun(y0:((Int×Int)×Unit))=>(Decidable.rec (motive:=fun _=>(Option ((List Int)×Unit))) (fun _=>(Decidable.rec (motive:=fun _=>(Option ((List Int)×Unit))) (fun _=>(Decidable.rec (motive:=fun _=>(Option ((List Int)×Unit))) (fun _=>none) (fun _=>(Decidable.rec (motive:=fun _=>(Option ((List Int)×Unit))) (fun _=>none) (fun _=>(Decidable.rec (motive:=fun _=>(Option ((List Int)×Unit))) (fun _=>none) (fun _=>(loopP (X:=(Int×((List Int)×Unit))) (R:=((List Int)×Unit)) (P.a2f) k ((((Min.min (List.length x.1) (List.length (List.replicate (Int.toNat (IntKind.wrap .i64 y0.1.2)) (0:Int)))):Nat):Int),((splice (List.replicate (Int.toNat (IntKind.wrap .i64 y0.1.2)) (0:Int)) (List.take (List.length (List.replicate (Int.toNat (IntKind.wrap .i64 y0.1.2)) (0:Int))) x.1) (0:Nat)),())))) (instDecidableEqBool (decide (((IntKind.wrap .i64 y0.1.2)*(8:Int))≤(281474976710656:Int))) true))) (instDecidableEqBool (decide ((IntKind.wrap .i64 y0.1.2)≤(IntKind.wrap .i64 y0.1.2))) true))) (instDecidableEqBool (decide ((0:Int)≤(IntKind.wrap .i64 y0.1.2))) true))) (fun _=>none) (instDecidableEqBool (decide (y0.1.2>(9223372036854775807:Int))) true))) (fun _=>none) (instDecidableEqBool (decide (y0.1.1>(0:Int))) true))))) (fun _=>none) (instDecidableEqBool (decide (x.2.1<(0:Int))) true))
theorem PP.b1r (k:Nat) (x:((List Int)×(Int×Unit))):PP.a6g k x=P.a4c k x:=rfl
theorem mul_one_bitsI:∀n:Fin 21,S.a2v (1,((n.val:Int),()))=some ((0,(n.val:Int)),()):=by decide
def S.a1j (x:((List Int)×(Int×Unit))):(Option ((List Int)×Unit)):=if x.1.length=1∧0≤x.2.1∧x.2.1≤20 then some (List.replicate x.2.1.toNat (x.1.getD 0 0),())else none
theorem S.b2h (x r) (h:S.a1j x=some r):∃k,P.a4c k x=some r:=by
 obtain⟨xs,m,u⟩:=x;unfold S.a1j at h;dsimp only at h;split at h
 case isFalse=>cases h
 rename_i hc;cases h;obtain⟨hx,h1,h2⟩:=hc;obtain⟨a,rfl⟩:∃a,xs=[a]:=by
  match xs,hx with
  | [a],_=>exact⟨a,rfl⟩
 obtain⟨M,rfl⟩:∃M:Nat,m=(M:Int):=⟨m.toNat,by omega⟩
 rw[Int.toNat_natCast];refine⟨M+2,?_⟩;unfold P.a4c;dsimp only;have hmul:=mul_one_bitsI ⟨M,by omega⟩;dsimp only at hmul;have e0:IntKind.wrap .u64 (M:Int)=(M:Int):=IntWalk.u64_in _ (by omega);rw[if_neg (by simp),e0];show Option.bind (S.a2v (1,((M:Int),()))) _=_;rw[hmul,Option.bind_some];dsimp only;rw[if_neg (show ¬((decide ((0:Int)>0))=true) by simp),if_neg (by simpa using(show ¬(M:Int)>9223372036854775807 by omega)),wr (by omega) (by omega),if_pos (decide_eq_true (show(0:Int)≤(M:Int) by omega)),if_pos (by simp),if_pos (decide_eq_true (show(M:Int)*8≤281474976710656 by omega)),Int.toNat_natCast];simp only[List.length_replicate,List.length_cons,List.length_nil,Nat.zero_add];have key:∀(d j k:Nat),j+d=M→1≤j→d<k→loopP P.a2f k ((j:Int),List.replicate j a++List.replicate d (0:Int),())=some (List.replicate M a,()):=by
  intro d
  induction d using Nat.strongRecOn with
  |ind d ih=>
   intro j k hj h1 hk;cases k with
   |zero=>omega
   |succ k=>
    rw[a0k];unfold P.a2f;have hlen:(List.replicate j a++List.replicate d (0:Int)).length=M:=by simp;omega
    dsimp only;rw[hlen]
    by_cases hd:d=0
    ·subst hd;rw[if_neg (by simpa using(show ¬(j:Int)<(M:Int) by omega))];rw[show j=M by omega];simp
    ·have c1:(j:Int)<(M:Int):=by omega
     have c2:(0:Int)≤(M:Int):=by omega
     have c3:(M:Int)+0≤(M:Int):=by omega
     have c4:(0:Int)≤(j:Int):=by omega
     have c5:(j:Int)≤(M:Int):=by omega
     have c6:(j:Int)+0≤(M:Int):=by omega
     simp only[c1,c2,c3,c4,c5,c6,decide_true,if_true];have hs:seen (List.replicate j a++List.replicate d (0:Int)) 0 ((j:Int).toNat - 0)=List.replicate j a:=by
      unfold seen;rw[Int.toNat_natCast,Nat.sub_zero,List.drop_zero,List.take_left' (by simp)]
     rw[hs,List.length_replicate,Int.toNat_natCast,Int.toNat_natCast];have hsp:splice (List.replicate j a++List.replicate d (0:Int)) (List.take (M - j) (List.replicate j a)) (0+j)=List.replicate (j+min j d) a++List.replicate (d - min j d) (0:Int):=by
      unfold splice;rw[Nat.zero_add,List.take_left' (by simp),List.take_replicate,List.length_replicate,show M - j=d by omega,List.drop_append];simp only[List.length_replicate];rw[List.drop_of_length_le (by simp),List.nil_append,List.drop_replicate,←List.replicate_append_replicate,show j+min d j - j=min d j by omega,Nat.min_comm d j]
     rw[hsp,show M - j=d by omega,wr (by omega) (by omega)];have:=ih (d - min j d) (by omega) (j+min j d) k (by omega) (by omega) (by omega);rw[←this];congr 2
 match M,h2 with
 |0,_=>
  rfl
 |M+1,h2=>
  have:=key M 1 (M+1+2) (by omega) (by omega) (by omega);have a1:min 1 (M+1)=1:=by omega
  have a2:splice (List.replicate (M+1) (0:Int)) (List.take (M+1) [a]) 0=List.replicate 1 a++List.replicate M (0:Int):=by
   unfold splice;simp [List.replicate_succ]
  rw[a1,a2];exact this
abbrev i_reach.A:=Int×Int×List RB×List Bool×List Int×List (List RB)×Unit
abbrev i_reach.B:=List Int×List (List RB)×List Bool×Unit
abbrev i_reach.C:=Option (List Bool×Unit)
abbrev P.b5y (g2:i_reach.B→i_reach.C) (x4:i_reach.A) (g5:i_reach.A→i_reach.C):i_reach.C:=
 (fun(a b:Int) (c:List RB) (d:List Bool) (e:List Int) (f:List (List RB))=>if decide (a<b)then if decide ((0:Int)≤a)then if decide (a<(c.length:Int))then(S.a0t (((c.getD a.toNat (false,([]:List Int),([]:List Int))).1,(c.getD a.toNat (false,([]:List Int),([]:List Int))).2.1,(c.getD a.toNat (false,([]:List Int),([]:List Int))).2.2),())).bind fun y6=>if decide (y6.1>(0:Int))then if decide ((0:Int)≤a)then if decide (a<(d.length:Int))then if ! (d.getD ((0:Nat)+a.toNat) false)then if decide ((0:Int)≤a)then if decide (a<(d.length:Int))then if decide (((e.length+(List.length [a]))*(8:Nat))≤(140737488355328:Nat))then g5 (IntKind.wrap .i64 (a+(1:Int)),b,c,d.set ((0:Nat)+a.toNat) true,e++[a],f,())else none else none else none else g5 (IntKind.wrap .i64 (a+(1:Int)),b,c,d,e,f,())else none else none else g5 (IntKind.wrap .i64 (a+(1:Int)),b,c,d,e,f,())else none else none else if decide ((0:Int)≤(e.length:Int))then if decide (((e.length:Int)+(0:Int))≤(e.length:Int))then if decide ((1:Int)≤(e.length:Int))then g2 (seen e (1:Nat) ((Int.toNat (e.length:Int)) - (1:Nat)),f,d,())else none else none else none) x4.1 x4.2.1 x4.2.2.1 x4.2.2.2.1 x4.2.2.2.2.1 x4.2.2.2.2.2.1
abbrev P.c4i (k:Nat) (x1:i_reach.B) (g2:i_reach.B→i_reach.C):i_reach.C:=
 if decide ((x1.1.length:Int)>(0:Int))then if decide ((0:Int)<(x1.1.length:Int))then if decide ((0:Int)≤(x1.1.getD (0:Nat) (0:Int)))then if decide ((x1.1.getD (0:Nat) (0:Int))<(x1.2.1.length:Int))then loopP (P.b5y g2) k ((0:Int),(List.length (x1.2.1.getD (Int.toNat (x1.1.getD (0:Nat) (0:Int))) ([]:List RB)):Int),x1.2.1.getD (Int.toNat (x1.1.getD (0:Nat) (0:Int))) ([]:List RB),x1.2.2.1,x1.1,x1.2.1,())else none else none else none else some (x1.2.2.1,())
def P.i_reach (k:Nat) (x:List (List RB)×Int×Unit):i_reach.C:=
 if decide ((0:Int)≤(x.1.length:Int))then if decide ((x.1.length:Int)≤(x.1.length:Int))then if decide (((x.1.length:Int)*(1:Int))≤(281474976710656:Int))then if decide ((0:Int)≤x.2.1)then if decide (x.2.1<(List.length (List.replicate (Int.toNat (x.1.length:Int)) false):Int))then loopP (P.c4i k) k ([x.2.1],x.1,List.set (List.replicate (Int.toNat (x.1.length:Int)) false) ((0:Nat)+x.2.1.toNat) true,())else none else none else none else none else none
theorem sign_rp (q:Q3):S.a0t (((rp B32 q).1,(rp B32 q).2.1,(rp B32 q).2.2),())=some (sgnQ q.1 q.2.1,()):=by
 unfold S.a0t rp;dsimp only;rw[if_pos (a0l (by decide) _),a0j (by decide)]
theorem reI_inner {M:List (List Q3)} (hM:isM M) {i:Nat} (hi:i<M.length) {sn:List Bool} {td:List Nat} (hb:Bok M.length (sn,td)) (hm:td.length+sn.count false≤1000000)
  (g) {K:Nat} (hK:M.length<K):
  loopP (P.b5y g) K ((0:Int),(M.length:Int),(M.getD i []).map (rp B32),sn,zs (i::td),mp B32 M,())=g (zs (b4o (adj M i) M.length (sn,td)).2,mp B32 M,(b4o (adj M i) M.length (sn,td)).1,()):=by
 have hrow:=c5k hM hi;have hn:=hM.1;have key:=a0h (k:=K) (b:=P.b5y g) (n:=M.length) (st:=fun j=>((j:Int),(M.length:Int),(M.getD i []).map (rp B32),((List.range j).foldl (b0d (adj M i)) (sn,td)).1,zs (i::((List.range j).foldl (b0d (adj M i)) (sn,td)).2),mp B32 M,())) (F:=fun _=>g (zs (b4o (adj M i) M.length (sn,td)).2,mp B32 M,(b4o (adj M i) M.length (sn,td)).1,())) (fun j g' hj hg=>by
  unfold P.b5y;dsimp only at hg ⊢;obtain⟨b1,b2⟩:=b7m (a:=adj M i) hb j (by omega);rw[b4f]at hg;generalize (List.range j).foldl (b0d (adj M i)) (sn,td)=s at b1 b2 hg ⊢;have b3:s.2.length≤td.length+sn.count false:=by
   dsimp only at b2;omega
  have e1:(j:Int)<(M.length:Int):=by omega
  have e2:(0:Int)≤(j:Int):=by omega
  have e3:(((M.getD i []).map (rp B32)).length:Int)=(M.length:Int):=by rw[List.length_map,hrow.1]
  have e4:(zs (i::s.2)).length=s.2.length+1:=by simp [zs]
  have e5:(s.2.length+1+1)*8≤140737488355328:=by omega
  have e6:(s.1.length:Int)=(M.length:Int):=by rw[b1.len]
  rw[Int.toNat_natCast,getD_rp B32 (by rw[hrow.1];exact hj),sign_rp,Option.bind_some];simp only[e1,e2,e3,e4,e5,e6,decide_true,if_true,List.length_cons,List.length_nil,Nat.zero_add];rw[sgnQ_pos,posQ_adj hM hi hj,wr (by omega) (by omega)];unfold b0d at hg;cases ha:adj M i j
  ·rw[ha,if_neg (by simp)]at hg;rw[if_neg (by decide)];exact hg
  ·rw[if_pos rfl];cases hs:s.1.getD j false
   ·rw[ha,hs,if_pos ⟨rfl,rfl⟩]at hg;rw[if_pos (by decide),←hg];simp [zs]
   ·rw[ha,hs,if_neg (by simp)]at hg;rw[if_neg (by decide)];exact hg) (fun g'=>by
  unfold P.b5y;dsimp only
  change _=g (zs (b4o (adj M i) M.length (sn,td)).2,mp B32 M,(b4o (adj M i) M.length (sn,td)).1,())
  rw[show(List.range M.length).foldl (b0d (adj M i)) (sn,td)=b4o (adj M i) M.length (sn,td)from rfl];generalize b4o (adj M i) M.length (sn,td)=s;have e4:(zs (i::s.2)).length=s.2.length+1:=by simp [zs]
  have e5:(0:Int)≤((s.2.length+1:Nat):Int):=by omega
  have e6:((s.2.length+1:Nat):Int)+0≤((s.2.length+1:Nat):Int):=by omega
  have e7:(1:Int)≤((s.2.length+1:Nat):Int):=by omega
  rw[if_neg (by simp)];simp only[e4,e5,e6,e7,decide_true,if_true,Int.toNat_natCast];have e8:seen (zs (i::s.2)) 1 (s.2.length+1 - 1)=zs s.2:=by
   show(zs s.2).take (s.2.length+1 - 1)=zs s.2;exact List.take_of_length_le (by rw[c3k];omega)
  rw[e8]) hK
 exact key
theorem reI_outer {M:List (List Q3)} (hM:isM M) {K:Nat} (hK:M.length<K):∀(f k:Nat) (sn:List Bool) (td:List Nat),Bok M.length (sn,td)→td.length+sn.count false≤f→f<k→f≤1000000→loopP (P.c4i K) k (zs td,mp B32 M,sn,())=some (bfs (adj M) M.length f sn td,()):=by
 intro f
 induction f with
 |zero=>
  intro k sn td hb hm hk hf;cases k with
  |zero=>omega
  |succ k=>
   have:td=[]:=List.eq_nil_of_length_eq_zero (by omega);subst this;rw[a0k];rfl
 |succ f ih=>
  intro k sn td hb hm hk hf;cases k with
  |zero=>omega
  |succ k=>
   rw[a0k];cases td with
   |nil=>rfl
   |cons i r=>
    have hi:i<M.length:=hb.lt i (List.mem_cons_self ..);have hb':Bok M.length (sn,r):=⟨hb.len,fun t ht=>hb.lt t (List.mem_cons_of_mem _ ht)⟩
    have hm':r.length+sn.count false≤f:=by
     rw[List.length_cons]at hm;omega
    unfold P.c4i;dsimp only;have e1:((zs (i::r)).length:Int)>0:=by rw[c3k,List.length_cons];omega
    have e2:(zs (i::r)).getD 0 0=(i:Int):=rfl;have e3:(0:Int)≤(i:Int):=by omega
    have e4:(i:Int)<((mp B32 M).length:Int):=by rw[b0g];omega
    rw[e2];simp only[e1,e3,e4,decide_true,if_true,Int.toNat_natCast];rw[mp_at hi,List.length_map,(c5k hM hi).1,reI_inner hM hi hb' (by omega) _ hK,bfs];obtain⟨c1,c2⟩:=b7m (a:=adj M i) hb' M.length (Nat.le_refl _);exact ih k _ _ c1 (by
     have:(b4o (adj M i) M.length (sn,r)).2.length+(b4o (adj M i) M.length (sn,r)).1.count false=r.length+sn.count false:=c2;omega) (by omega) (by omega)
open Classical in
def S.c4j (x:((List (List RB))×(Int×Unit))):(Option ((List Bool)×Unit)):=if(∃M,isM M∧x.1=mp B32 M)∧0≤x.2.1∧x.2.1<(x.1.length:Int)then some (b2p (adj (mv B32 x.1)) x.1.length x.2.1.toNat,())else none
theorem S.i_reach_ok (x r) (h:S.c4j x=some r):∃k,P.i_reach k x=some r:=by
 obtain⟨m,s,u⟩:=x;unfold S.c4j at h;dsimp only at h;split at h
 case isFalse=>cases h
 rename_i hc;obtain⟨⟨M,hM,rfl⟩,h0,h1⟩:=hc;cases h;obtain⟨s,rfl⟩:=Int.eq_ofNat_of_zero_le h0;rw[c3h (by decide),b0g]at*;have hs:s<M.length:=by omega
 have hn:=hM.1;refine⟨M.length+1,?_⟩;unfold P.i_reach;dsimp only;have e1:(0:Int)≤(M.length:Int):=by omega
 have e2:(M.length:Int)*1≤281474976710656:=by omega
 have e3:((List.replicate M.length false).length:Int)=(M.length:Int):=by simp
 rw[b0g];simp only[e1,e2,e3,h0,h1,Int.le_refl,decide_true,if_true,Int.toNat_natCast,Nat.zero_add];obtain⟨c1,c2⟩:=c8p hs;exact reI_outer hM (K:=M.length+1) (by omega) M.length (M.length+1) _ [s] c1 (by omega) (by omega) (by omega)
abbrev P.b5a (x1:Int×Int×List (List Bool)×List (List RB)×Unit) (g2:Int×Int×List (List Bool)×List (List RB)×Unit→Option (List (List Bool)×Unit)):Option (List (List Bool)×Unit):=
 if decide (x1.1<x1.2.1)then(S.c4j (x1.2.2.2.1,x1.1,())).bind fun y3=>if decide (((x1.2.2.1.length+(List.length [y3.1]))*(24:Nat))≤(140737488355328:Nat))then g2 (IntKind.wrap .i64 (x1.1+(1:Int)),x1.2.1,x1.2.2.1++[y3.1],x1.2.2.2.1,())else none else some (x1.2.2.1,())
def P.c9y (k:Nat) (x:List (List RB)×Unit):Option (List (List Bool)×Unit):=
 loopP P.b5a k ((0:Int),(x.1.length:Int),([]:List (List Bool)),x.1,())
def c2k (M:List (List Q3)):List (List Bool):=tab M.length fun i=>b2p (adj M) M.length i
theorem reach_i {M:List (List Q3)} (hM:isM M) {i:Nat} (hi:i<M.length):S.c4j (mp B32 M,(i:Int),())=some (b2p (adj M) M.length i,()):=by
 unfold S.c4j;dsimp only;rw[if_pos ⟨⟨M,hM,rfl⟩,by omega,by rw[b0g];omega⟩,c3h (by decide),b0g,Int.toNat_natCast]
open Classical in
def S.b5z (x:((List (List RB))×Unit)):(Option ((List (List Bool))×Unit)):=if ∃M,isM M∧x.1=mp B32 M then some (c2k (mv B32 x.1),())else none
theorem S.i_reaches_ok (x r) (h:S.b5z x=some r):∃k,P.c9y k x=some r:=by
 obtain⟨m,u⟩:=x;unfold S.b5z at h;dsimp only at h;split at h
 case isFalse=>cases h
 rename_i hc;obtain⟨M,hM,rfl⟩:=hc;cases h;rw[c3h (by decide)];have hn:=hM.1;refine⟨M.length+1,?_⟩;unfold P.c9y;dsimp only;rw[b0g];have key:=a0h (k:=M.length+1) (b:=P.b5a) (n:=M.length) (st:=fun i=>((i:Int),(M.length:Int),tab i (fun i=>b2p (adj M) M.length i),mp B32 M,())) (F:=fun i=>some (c2k M,())) (fun i g hi hg=>by
  unfold P.b5a;dsimp only at hg ⊢;have e1:(i:Int)<(M.length:Int):=by omega
  have e2:(i+1)*24≤140737488355328:=by omega
  rw[reach_i hM hi,Option.bind_some];simp only[e1,e2,a2c,decide_true,if_true,List.length_cons,List.length_nil,Nat.zero_add];rw[wr (by omega) (by omega),←hg,c3l];rfl) (fun g=>by
  unfold P.b5a;dsimp only;rw[if_neg (by simp)];rfl) (by omega)
 exact key
abbrev i_classes.A:=Int×Int×List (List Bool)×Int×List Int×List Bool×Bool×Int×Int×List (List RB)×Unit
abbrev i_classes.B:=Int×Int×List Int×List (List RB)×List (List Bool)×List Bool×Unit
abbrev i_classes.C:=Option ((List Int×List Bool)×Unit)
abbrev P.b1s (g4:i_classes.B→i_classes.C) (x6:i_classes.A) (g7:i_classes.A→i_classes.C):i_classes.C:=
 (fun(a b d i j:Int) (c:List (List Bool)) (e:List Int) (f:List Bool) (h:Bool) (l:List (List RB))=>if decide (a<b)then if decide ((0:Int)≤d)then if decide (d<(c.length:Int))then if decide ((0:Int)≤a)then if decide (a<(List.length (c.getD d.toNat ([]:List Bool)):Int))then if List.getD (c.getD d.toNat ([]:List Bool)) a.toNat false then if decide ((0:Int)≤a)then if decide (a<(c.length:Int))then if decide ((0:Int)≤d)then if decide (d<(List.length (c.getD a.toNat ([]:List Bool)):Int))then if List.getD (c.getD a.toNat ([]:List Bool)) d.toNat false then if decide ((0:Int)≤a)then if decide (a<(e.length:Int))then if h then if decide ((0:Int)≤d)then if decide (d<(c.length:Int))then if decide ((0:Int)≤a)then if decide (a<(List.length (c.getD d.toNat ([]:List Bool)):Int))then if ! (List.getD (c.getD d.toNat ([]:List Bool)) a.toNat false)then g7 (IntKind.wrap .i64 (a+(1:Int)),b,c,d,e.set ((0:Nat)+a.toNat) (f.length:Int),f,true,i,j,l,())else if decide ((0:Int)≤a)then if decide (a<(c.length:Int))then if decide ((0:Int)≤d)then if decide (d<(List.length (c.getD a.toNat ([]:List Bool)):Int))then g7 (IntKind.wrap .i64 (a+(1:Int)),b,c,d,e.set ((0:Nat)+a.toNat) (f.length:Int),f,List.getD (c.getD a.toNat ([]:List Bool)) d.toNat false,i,j,l,())else none else none else none else none else none else none else none else none else g7 (IntKind.wrap .i64 (a+(1:Int)),b,c,d,e.set ((0:Nat)+a.toNat) (f.length:Int),f,false,i,j,l,())else none else none else if h then if decide ((0:Int)≤d)then if decide (d<(c.length:Int))then if decide ((0:Int)≤a)then if decide (a<(List.length (c.getD d.toNat ([]:List Bool)):Int))then if ! (List.getD (c.getD d.toNat ([]:List Bool)) a.toNat false)then g7 (IntKind.wrap .i64 (a+(1:Int)),b,c,d,e,f,true,i,j,l,())else if decide ((0:Int)≤a)then if decide (a<(c.length:Int))then if decide ((0:Int)≤d)then if decide (d<(List.length (c.getD a.toNat ([]:List Bool)):Int))then g7 (IntKind.wrap .i64 (a+(1:Int)),b,c,d,e,f,List.getD (c.getD a.toNat ([]:List Bool)) d.toNat false,i,j,l,())else none else none else none else none else none else none else none else none else g7 (IntKind.wrap .i64 (a+(1:Int)),b,c,d,e,f,false,i,j,l,())else none else none else none else none else if h then if decide ((0:Int)≤d)then if decide (d<(c.length:Int))then if decide ((0:Int)≤a)then if decide (a<(List.length (c.getD d.toNat ([]:List Bool)):Int))then if ! (List.getD (c.getD d.toNat ([]:List Bool)) a.toNat false)then g7 (IntKind.wrap .i64 (a+(1:Int)),b,c,d,e,f,true,i,j,l,())else if decide ((0:Int)≤a)then if decide (a<(c.length:Int))then if decide ((0:Int)≤d)then if decide (d<(List.length (c.getD a.toNat ([]:List Bool)):Int))then g7 (IntKind.wrap .i64 (a+(1:Int)),b,c,d,e,f,List.getD (c.getD a.toNat ([]:List Bool)) d.toNat false,i,j,l,())else none else none else none else none else none else none else none else none else g7 (IntKind.wrap .i64 (a+(1:Int)),b,c,d,e,f,false,i,j,l,())else none else none else none else none else if decide (((f.length+(List.length [h]))*(1:Nat))≤(140737488355328:Nat))then g4 (IntKind.wrap .i64 (i+(1:Int)),j,e,l,c,f++[h],())else none) x6.1 x6.2.1 x6.2.2.2.1 x6.2.2.2.2.2.2.2.1 x6.2.2.2.2.2.2.2.2.1 x6.2.2.1 x6.2.2.2.2.1 x6.2.2.2.2.2.1 x6.2.2.2.2.2.2.1 x6.2.2.2.2.2.2.2.2.2.1
abbrev P.b5b (k:Nat) (x3:i_classes.B) (g4:i_classes.B→i_classes.C):i_classes.C:=
 if decide (x3.1<x3.2.1)then if decide ((0:Int)≤x3.1)then if decide (x3.1<(x3.2.2.1.length:Int))then if decide ((x3.2.2.1.getD ((0:Nat)+x3.1.toNat) (0:Int))≥(0:Int))then g4 (IntKind.wrap .i64 (x3.1+(1:Int)),x3.2.1,x3.2.2.1,x3.2.2.2.1,x3.2.2.2.2.1,x3.2.2.2.2.2.1,())else loopP (P.b1s g4) k ((0:Int),(x3.2.2.2.1.length:Int),x3.2.2.2.2.1,x3.1,x3.2.2.1,x3.2.2.2.2.2.1,true,x3.1,x3.2.1,x3.2.2.2.1,())else none else none else some ((x3.2.2.1,x3.2.2.2.2.2.1),())
def P.c9z (k:Nat) (x:List (List RB)×Unit):i_classes.C:=
 (S.b5z (x.1,())).bind fun y0=>(S.a1j ([(-1:Int)],(x.1.length:Int),())).bind fun y1=>loopP (P.b5b k) k ((0:Int),(x.1.length:Int),y1.1,x.1,y0.1,([]:List Bool),())
theorem rowsR_at {M:List (List Q3)} {i j:Nat} (hi:i<M.length):((c2k M).getD i []).getD j false=rcB M i j:=by
 unfold c2k rcB;rw[tab_getD _ _ hi]
theorem rowsR_len {M:List (List Q3)} :(c2k M).length=M.length:=by
 unfold c2k;rw[a2c]
theorem rowsR_row {M:List (List Q3)} {i:Nat} (hi:i<M.length):((c2k M).getD i []).length=M.length:=by
 unfold c2k;rw[tab_getD _ _ hi,c5j hi]
theorem icl_inner {M:List (List Q3)} {i:Nat} (hi:i<M.length) (hn:M.length≤12) (f:Nat→Int) (cl:List Bool) (hcl:cl.length≤12)
  (g) {K:Nat} (hK:M.length<K) (p:List (List RB)):
  loopP (P.b1s g) K ((0:Int),(M.length:Int),c2k M,(i:Int),tab M.length f,cl,true,(i:Int),(M.length:Int),p,())=g (((i+1:Nat):Int),(M.length:Int),tab M.length (fun j=>if(rcB M i j&&rcB M j i)=true then(cl.length:Int)else f j),p,c2k M,cl++[(List.range M.length).all fun j=> !rcB M i j||rcB M j i],()):=by
 have key:=a0h (k:=K) (b:=P.b1s g) (n:=M.length) (st:=fun j=>((j:Int),(M.length:Int),c2k M,(i:Int),upT M.length f (fun j=>rcB M i j&&rcB M j i) (cl.length:Int) j,cl,(List.range j).all (fun j=> !rcB M i j||rcB M j i),(i:Int),(M.length:Int),p,())) (F:=fun _=>g (((i+1:Nat):Int),(M.length:Int),tab M.length (fun j=>if(rcB M i j&&rcB M j i)=true then(cl.length:Int)else f j),p,c2k M,cl++[(List.range M.length).all fun j=> !rcB M i j||rcB M j i],())) (fun j g' hj hg=>by
  unfold P.b1s;dsimp only at hg ⊢;have e1:(j:Int)<(M.length:Int):=by omega
  have e2:(0:Int)≤(j:Int):=by omega
  have e3:(0:Int)≤(i:Int):=by omega
  have e4:(i:Int)<(M.length:Int):=by omega
  have e5:∀k,(upT M.length f (fun j=>rcB M i j&&rcB M j i) (cl.length:Int) k).length=M.length:=fun k=>a2c _ _
  simp only[rowsR_len,Int.toNat_natCast,rowsR_row hi,rowsR_row hj,rowsR_at hi,rowsR_at hj,e1,e2,e3,e4,e5,decide_true,if_true,Nat.zero_add];rw[wr (by omega) (by omega)];rw[all_succ]at hg;cases h1:rcB M i j
  ·rw[←upT_no (by rw[h1];rfl),h1,Bool.not_false,Bool.true_or,Bool.and_true]at hg;cases hs:(List.range j).all fun j=> !rcB M i j||rcB M j i
   ·rw[hs]at hg;exact hg
   ·rw[hs]at hg;exact hg
  ·cases h2:rcB M j i
   ·rw[←upT_no (by rw[h1,h2];rfl),h1,h2,Bool.not_true,Bool.false_or,Bool.and_false]at hg;cases hs:(List.range j).all fun j=> !rcB M i j||rcB M j i
    ·exact hg
    ·exact hg
   ·rw[←upT_yes (by rw[h1,h2];rfl),h1,h2,Bool.not_true,Bool.false_or,Bool.and_true]at hg;cases hs:(List.range j).all fun j=> !rcB M i j||rcB M j i
    ·rw[hs]at hg;exact hg
    ·rw[hs]at hg;exact hg) (fun g'=>by
  unfold P.b1s;dsimp only;have e1:(cl.length+1)*1≤140737488355328:=by omega
  rw[if_neg (by simp),upT_all];simp only[List.length_cons,List.length_nil,Nat.zero_add,e1,decide_true,if_true];rw[wr (by omega) (by omega)];rfl) hK
 refine Eq.trans ?_ key;unfold upT;congr 2
open Classical in
def S.b6a (x:((List (List RB))×Unit)):(Option (((List Int)×(List Bool))×Unit)):=if ∃M,isM M∧x.1=mp B32 M then some (b5g (mv B32 x.1),())else none
theorem S.i_classes_ok (x r) (h:S.b6a x=some r):∃k,P.c9z k x=some r:=by
 obtain⟨m,u⟩:=x;unfold S.b6a at h;dsimp only at h;split at h
 case isFalse=>cases h
 rename_i hc;obtain⟨M,hM,rfl⟩:=hc;cases h;rw[c3h (by decide)];have hn:=hM.1;refine⟨M.length+1,?_⟩;unfold P.c9z;dsimp only;have er:S.b5z (mp B32 M,())=some (c2k M,()):=by
  unfold S.b5z;dsimp only;rw[if_pos ⟨M,hM,rfl⟩,c3h (by decide)]
 have ep:S.a1j ([-1],(M.length:Int),())=some (List.replicate M.length (-1),()):=by
  unfold S.a1j;dsimp only;rw[if_pos ⟨rfl,by omega,by omega⟩,Int.toNat_natCast];rfl
 rw[er,b0g,Option.bind_some,ep,Option.bind_some];have key:=a0h (k:=M.length+1) (b:=P.b5b (M.length+1)) (n:=M.length) (st:=fun i=>((i:Int),(M.length:Int),((List.range i).foldl (a6k (rcB M) M.length) (List.replicate M.length (-1),[])).1,mp B32 M,c2k M,((List.range i).foldl (a6k (rcB M) M.length) (List.replicate M.length (-1),[])).2,())) (F:=fun _=>some (b5g M,())) (fun i g hi hg=>by
  unfold P.b5b;dsimp only at hg ⊢;obtain⟨l1,l2⟩:=c0d (rcB M) M.length i;rw[b4f]at hg;generalize (List.range i).foldl (a6k (rcB M) M.length) (List.replicate M.length (-1),[])=s at l1 l2 hg ⊢;have e1:(i:Int)<(M.length:Int):=by omega
  have e2:(0:Int)≤(i:Int):=by omega
  have e3:(i:Int)<(s.1.length:Int):=by omega
  have e4:s.1.getD i 0=s.1.getD i (-1):=by
   rw[List.getD_eq_getElem?_getD,List.getD_eq_getElem?_getD,List.getElem?_eq_getElem (by omega)];rfl
  simp only[e1,e2,e3,decide_true,if_true,Int.toNat_natCast,Nat.zero_add,e4,b0g];unfold a6k at hg
  by_cases h0:0≤s.1.getD i (-1)
  ·rw[if_pos h0]at hg;rw[if_pos (decide_eq_true h0),wr (by omega) (by omega)];exact hg
  ·rw[if_neg h0]at hg;rw[if_neg (by simpa using h0)];have hs:s.1=tab M.length fun v=>s.1.getD v (-1):=by
    conv=>lhs;rw[tab_of s.1 (-1),l1]
   rw[hs];refine Eq.trans (icl_inner hi hn (fun v=>s.1.getD v (-1)) s.2 (by omega) g (by omega) _) ?_;exact hg) (fun g=>by
  unfold P.b5b;dsimp only;rw[if_neg (by simp)];rfl) (by omega)
 exact key
def P.d0a (k:Nat) (x:RB×RB×Unit):Option (RB×Unit):=
 (S.a0t ((x.1.1,x.1.2.1,x.1.2.2),())).bind fun y0=>if y0.1==(0:Int)then(S.a5g ((0:Int),())).bind fun y1=>some ((y1.1.1,y1.1.2.1,y1.1.2.2),())else(S.a0t ((x.2.1.1,x.2.1.2.1,x.2.1.2.2),())).bind fun y2=>if y2.1==(0:Int)then(S.a5g ((0:Int),())).bind fun y3=>some ((y3.1.1,y3.1.2.1,y3.1.2.2),())else(S.a5e (false,x.1.2.1,x.2.1.2.2,())).bind fun y4=>(S.a5e (false,x.2.1.2.1,x.1.2.2,())).bind fun y5=>(S.a2t (y4.1.2.1,y5.1.2.1,())).bind fun y6=>(S.a2t (y4.1.2.2,y5.1.2.2,())).bind fun y7=>some ((! (x.1.1==x.2.1.1),y6.1,y7.1),())
theorem rm_mul (p q:Nat) (hp:(nd B32 p).length≤100000000) (hq:(nd B32 q).length≤100000000):S.a2t (nd B32 p,(nd B32 q,()))=some (nd B32 (p*q),()):=by
 unfold S.a2t;dsimp only;rw[if_pos ⟨a3x a0e _,a3x a0e _,by omega,by omega⟩,a0j a0e,a0j a0e]
theorem rm_low (n:Bool) (p q:Nat) (hp:(nd B32 p).length≤100000000) (hq:(nd B32 q).length≤100000000) (h0:q≠0):S.a5e (n,(nd B32 p,(nd B32 q,())))=some (rp B32 (b9x n p q),()):=by
 unfold S.a5e;dsimp only;rw[if_pos ⟨a0l a0e _,a0l a0e _,nd_ne a0e h0,by omega,by omega⟩,a0j a0e,a0j a0e]
theorem rm_sign (n:Bool) (p:Nat) (bs:List Int):S.a0t ((n,(nd B32 p,bs)),())=some (sgnQ n p,()):=by
 unfold S.a0t;dsimp only;rw[if_pos (a0l a0e _),a0j a0e]
theorem rm_zero:S.a5g (0,())=some (rp B32 (false,(0,1)),()):=by
 unfold S.a5g;rfl
def S.a5l (x:(RB×(RB×Unit))):(Option (RB×Unit)):=if c3z B32 40000000 x.1=true∧c3z B32 40000000 x.2.1=true then some (rp B32 (c3y (rv B32 x.1) (rv B32 x.2.1)),())else none
theorem S.i_rat_mul_ok (x r) (h:S.a5l x=some r):∃k,P.d0a k x=some r:=by
 obtain⟨x,y,u⟩:=x;unfold S.a5l at h;dsimp only at h;split at h
 case isFalse=>cases h
 rename_i hc;obtain⟨hx,hy⟩:=hc;cases h;rw[a7u]at hx hy;obtain⟨hx,lx⟩:=hx;obtain⟨hy,ly⟩:=hy;obtain⟨n1,p1,q1,rfl,x1,x2⟩:=b1t hx;obtain⟨n2,p2,q2,rfl,y1,y2⟩:=b1t hy;rw[b9g a0e]at lx ly ⊢;rw[b9g a0e];have hq1:0<q1:=lx.1;have hq2:0<q2:=ly.1;refine⟨0,?_⟩;unfold P.d0a c3y;dsimp only;rw[rm_sign,Option.bind_some,rm_zero,Option.bind_some];dsimp only
 by_cases h1:p1=0
 ·rw[if_pos (by simpa using a7j.2 h1),h1,Nat.zero_mul,lowN_zero _ (Nat.mul_pos hq1 hq2)]
 ·rw[if_neg (by simpa using fun q=>h1 (a7j.1 q)),rm_sign,Option.bind_some];dsimp only
  by_cases h2:p2=0
  ·rw[if_pos (by simpa using a7j.2 h2),h2,Nat.mul_zero,lowN_zero _ (Nat.mul_pos hq1 hq2)]
  ·have d1:=c0c a0e p1 (Nat.gcd p1 q2);have d2:=c0c a0e p2 (Nat.gcd p2 q1);have d3:=c0c a0e q2 (Nat.gcd p1 q2);have d4:=c0c a0e q1 (Nat.gcd p2 q1);rw[if_neg (by simpa using fun q=>h2 (a7j.1 q)),rm_low false p1 q2 (by omega) (by omega) (by omega),Option.bind_some,rm_low false p2 q1 (by omega) (by omega) (by omega),Option.bind_some,cross_mul _ (fun _=>⟨h1,h2⟩) hq1 hq2 lx.2.2 ly.2.2];unfold rp b9x;dsimp only;rw[rm_mul _ _ (by omega) (by omega),Option.bind_some,rm_mul _ _ (by omega) (by omega),Option.bind_some];rfl
def P.i_rat_over (k:Nat) (x:RB×RB×Unit):Option (RB×Unit):=
 (S.a5l ((x.1.1,x.1.2.1,x.1.2.2),(x.2.1.1,x.2.1.2.2,x.2.1.2.1),())).bind fun y0=>some ((y0.1.1,y0.1.2.1,y0.1.2.2),())
def S.a4r (x:(RB×(RB×Unit))):(Option (RB×Unit)):=if c3z B32 40000000 x.1=true∧c3z B32 40000000 x.2.1=true∧(rv B32 x.2.1).2.1≠0 then some (rp B32 (a2r (rv B32 x.1) (rv B32 x.2.1)),())else none
theorem S.i_rat_over_ok (x r) (h:S.a4r x=some r):∃k,P.i_rat_over k x=some r:=by
 obtain⟨x,y,u⟩:=x;unfold S.a4r at h;dsimp only at h;split at h
 case isFalse=>cases h
 rename_i hc;obtain⟨hx,hy,h0⟩:=hc;cases h;have hy':=a7u.1 hy;refine⟨0,?_⟩;have e2:S.a5l (x,((y.1,(y.2.2,y.2.1)),()))=some (rp B32 (a2r (rv B32 x) (rv B32 y)),()):=by
  unfold S.a5l;dsimp only;have hz:c3z B32 40000000 (y.1,(y.2.2,y.2.1))=true:=by
   rw[a7u];obtain⟨r1,l1⟩:=hy';have r2:=b9c.1 r1;refine⟨b9c.2 ⟨r2.2.1,r2.1,r2.2.2.2,r2.2.2.1⟩,?_⟩;obtain⟨l1,l2,l3⟩:=l1;refine⟨Nat.pos_of_ne_zero h0,fun _=>Nat.ne_of_gt l1,?_⟩;rw[Nat.gcd_comm];exact l3
  rw[if_pos ⟨hx,hz⟩];rfl
 show Option.bind (S.a5l (x,((y.1,(y.2.2,y.2.1)),()))) (fun y0=>some (y0.1,()))=_;rw[e2,Option.bind_some]
theorem ri_over {x y:Q3} {m n:Nat} (hx:low x) (bx:below m x) (hy:low y) (bY:below n y) (h0:y.2.1≠0) (hm:m≤350000000) (hn:n≤350000000):S.a4r (rp B32 x,(rp B32 y,()))=some (rp B32 (a2r x y),()):=by
 unfold S.a4r;dsimp only;rw[if_pos ⟨a4p (by decide) hx bx (by omega),a4p (by decide) hy bY (by omega),by rw[a5t a0e];exact h0⟩,a5t a0e,a5t a0e]
abbrev P.b7b (x1:Int×Int×List RB×List RB×RB×Unit) (g2:Int×Int×List RB×List RB×RB×Unit→Option (List RB×Unit)):Option (List RB×Unit):=
 (fun(a b:Int) (c d:List RB) (e:RB)=>if decide (a<b)then if decide ((0:Int)≤a)then if decide (a<(c.length:Int))then(S.a4r (((c.getD a.toNat (false,([]:List Int),([]:List Int))).1,(c.getD a.toNat (false,([]:List Int),([]:List Int))).2.1,(c.getD a.toNat (false,([]:List Int),([]:List Int))).2.2),(e.1,e.2.1,e.2.2),())).bind fun y3=>if decide (((d.length+(List.length [(y3.1.1,y3.1.2.1,y3.1.2.2)]))*(56:Nat))≤(140737488355328:Nat))then g2 (IntKind.wrap .i64 (a+(1:Int)),b,c,d++[(y3.1.1,y3.1.2.1,y3.1.2.2)],(e.1,e.2.1,e.2.2),())else none else none else none else some (d,())) x1.1 x1.2.1 x1.2.2.1 x1.2.2.2.1 x1.2.2.2.2.1
def P.i_scaled (k:Nat) (x:List RB×RB×Unit):Option (List RB×Unit):=
 loopP P.b7b k ((0:Int),(x.1.length:Int),x.1,([]:List RB),(x.2.1.1,x.2.1.2.1,x.2.1.2.2),())
def d0b (qs:List Q3) (q:Q3):List Q3:=qs.map fun r=>a2r r q
theorem over_i {x y:Q3} (hx:low x) (bx:below 350000000 x) (hy:low y) (bY:below 350000000 y) (h0:y.2.1≠0):S.a4r (((rp B32 x).1,(rp B32 x).2.1,(rp B32 x).2.2),((rp B32 y).1,(rp B32 y).2.1,(rp B32 y).2.2),())=some (rp B32 (a2r x y),()):=ri_over hx bx hy bY h0 (Nat.le_refl _) (Nat.le_refl _)
open Classical in
def S.b7c (x:((List RB)×(RB×Unit))):(Option ((List RB)×Unit)):=if ∃(qs:List Q3) (q:Q3),x.1=qs.map (rp B32)∧x.2.1=rp B32 q∧qs.length≤1000000∧(∀r∈qs,low r∧below 350000000 r)∧low q∧below 350000000 q∧q.2.1≠0 then some ((d0b (x.1.map (rv B32)) (rv B32 x.2.1)).map (rp B32),())else none
theorem S.i_scaled_ok (x r) (h:S.b7c x=some r):∃k,P.i_scaled k x=some r:=by
 obtain⟨xs,y,u⟩:=x;unfold S.b7c at h;dsimp only at h;split at h
 case isFalse=>cases h
 rename_i hc;obtain⟨qs,q,rfl,rfl,hl,hq,h1,h2,h3⟩:=hc;cases h;rw[b2o a0e,a5t a0e];refine⟨qs.length+1,?_⟩;unfold P.i_scaled;dsimp only;rw[List.length_map];have key:=a0h (k:=qs.length+1) (b:=P.b7b) (n:=qs.length) (st:=fun i=>((i:Int),(qs.length:Int),qs.map (rp B32),(d0b (qs.take i) q).map (rp B32),rp B32 q,())) (F:=fun _=>some ((d0b qs q).map (rp B32),())) (fun i g hi hg=>by
  unfold P.b7b;dsimp only at hg ⊢;have e1:(i:Int)<(qs.length:Int):=by omega
  have e2:(0:Int)≤(i:Int):=by omega
  have e3:(i+1)*56≤140737488355328:=by omega
  have e4:((d0b (qs.take i) q).map (rp B32)).length=i:=by
   unfold d0b;simp;omega
  simp only[e1,e2,e4,List.length_map,decide_true,if_true];rw[a0o (qs.map (rp B32)) i _ (by rw[List.length_map];exact hi),List.getElem_map,over_i (hq _ (List.getElem_mem hi)).1 (hq _ (List.getElem_mem hi)).2 h1 h2 h3,Option.bind_some];simp only[List.length_cons,List.length_nil,Nat.zero_add,e3,decide_true,if_true];rw[wr (by omega) (by omega),←hg];have e5:(d0b (qs.take (i+1)) q).map (rp B32)=(d0b (qs.take i) q).map (rp B32)++[rp B32 (a2r qs[i] q)]:=by
   unfold d0b;rw[←List.take_append_getElem hi,List.map_append,List.map_append];rfl
  rw[e5];rfl) (fun g=>by
  unfold P.b7b;dsimp only;rw[if_neg (by simp),List.take_length]) (by omega)
 exact key
end Go.Cm
end
