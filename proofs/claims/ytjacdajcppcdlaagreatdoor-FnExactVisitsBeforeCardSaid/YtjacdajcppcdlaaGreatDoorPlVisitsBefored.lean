import Derived.Test.YtjacdajcppcdlaaGreatDoorPlVisitsBeforec
set_option linter.unusedVariables false
set_option maxRecDepth 100000
noncomputable section
namespace Go.Cm
open IntKind (wrap)
abbrev i_nat_div.A:=Int×Int×Int×List Int×Int×Int×Int×List Int×List Int×Int×Unit
abbrev i_nat_div.B:=Int×List Int×List Int×Int×Int×List Int×Int×Unit
abbrev i_nat_div.C:=Option ((List Int×List Int)×Unit)
abbrev P.b2z (g20:i_nat_div.B->i_nat_div.C) (x22:i_nat_div.A) (g23:i_nat_div.A->i_nat_div.C):i_nat_div.C:=
 (fun(a b c e f h l:Int) (d i j:List Int)=>if decide (a>=4294967296)then if decide ((wrap .u64 (c+f))>=4294967296)then if decide (0<=(wrap .i64 (e+1)))then if decide (((wrap .i64 (e+1))+0)<=(d.length:Int))then if decide (0<=h)then if decide (h<=(wrap .i64 (e+1)))then(S.a8w (seen d (0+h.toNat) ((Int.toNat (wrap .i64 (e+1))) - h.toNat),i,wrap .u64 (a - 1),())).bind fun y24=>if y24.1 then if decide (0<=h)then if decide (h<(j.length:Int))then g20 (wrap .i64 (h - 1),i,splice d y24.2.1 (0+h.toNat),f,b,j.set (0+h.toNat) (wrap .u32 (wrap .u64 ((wrap .u64 (a - 1)) - 1))),l,())else none else none else if decide (0<=h)then if decide (h<(j.length:Int))then g20 (wrap .i64 (h - 1),i,splice d y24.2.1 (0+h.toNat),f,b,j.set (0+h.toNat) (wrap .u32 (wrap .u64 (a - 1))),l,())else none else none else none else none else none else none else g23 (wrap .u64 (a - 1),b,wrap .u64 (c+f),d,e,f,h,i,j,l,())else if decide (0<=(wrap .i64 (e - 2)))then if decide ((wrap .i64 (e - 2))<(d.length:Int))then if decide ((wrap .u64 (a*b))>(wrap .u64 ((wrap .u64 (c*4294967296))+(wrap .u64 (d.getD (0+(Int.toNat (wrap .i64 (e - 2)))) 0)))))then if decide ((wrap .u64 (c+f))>=4294967296)then if decide (0<=(wrap .i64 (e+1)))then if decide (((wrap .i64 (e+1))+0)<=(d.length:Int))then if decide (0<=h)then if decide (h<=(wrap .i64 (e+1)))then(S.a8w (seen d (0+h.toNat) ((Int.toNat (wrap .i64 (e+1))) - h.toNat),i,wrap .u64 (a - 1),())).bind fun y25=>if y25.1 then if decide (0<=h)then if decide (h<(j.length:Int))then g20 (wrap .i64 (h - 1),i,splice d y25.2.1 (0+h.toNat),f,b,j.set (0+h.toNat) (wrap .u32 (wrap .u64 ((wrap .u64 (a - 1)) - 1))),l,())else none else none else if decide (0<=h)then if decide (h<(j.length:Int))then g20 (wrap .i64 (h - 1),i,splice d y25.2.1 (0+h.toNat),f,b,j.set (0+h.toNat) (wrap .u32 (wrap .u64 (a - 1))),l,())else none else none else none else none else none else none else g23 (wrap .u64 (a - 1),b,wrap .u64 (c+f),d,e,f,h,i,j,l,())else if decide (0<=(wrap .i64 (e+1)))then if decide (((wrap .i64 (e+1))+0)<=(d.length:Int))then if decide (0<=h)then if decide (h<=(wrap .i64 (e+1)))then(S.a8w (seen d (0+h.toNat) ((Int.toNat (wrap .i64 (e+1))) - h.toNat),i,a,())).bind fun y26=>if y26.1 then if decide (0<=h)then if decide (h<(j.length:Int))then g20 (wrap .i64 (h - 1),i,splice d y26.2.1 (0+h.toNat),f,b,j.set (0+h.toNat) (wrap .u32 (wrap .u64 (a - 1))),l,())else none else none else if decide (0<=h)then if decide (h<(j.length:Int))then g20 (wrap .i64 (h - 1),i,splice d y26.2.1 (0+h.toNat),f,b,j.set (0+h.toNat) (wrap .u32 a),l,())else none else none else none else none else none else none else none else none) x22.1 x22.2.1 x22.2.2.1 x22.2.2.2.2.1 x22.2.2.2.2.2.1 x22.2.2.2.2.2.2.1 x22.2.2.2.2.2.2.2.2.2.1 x22.2.2.2.1 x22.2.2.2.2.2.2.2.1 x22.2.2.2.2.2.2.2.2.1
abbrev P.a9h (x28:Int×Int×List Int×Int×List Int×Unit) (g29:Int×Int×List Int×Int×List Int×Unit->i_nat_div.C):i_nat_div.C:=
 (fun(a b d:Int) (c e:List Int)=>if decide (a<b)then if decide ((wrap .i64 (a+1))<(c.length:Int))then if decide (0<=(wrap .i64 (a+1)))then if decide ((wrap .i64 (a+1))<(c.length:Int))then if decide (0<=a)then if decide (a<(c.length:Int))then if decide (d<0)then none else if decide (0<=a)then if decide (a<(c.length:Int))then g29 (wrap .i64 (a+1),b,c.set (0+a.toNat) (wrap .u32 (Int.fdiv (wrap .u64 ((wrap .u64 ((wrap .u64 (c.getD (0+(Int.toNat (wrap .i64 (a+1)))) 0))*4294967296))+(wrap .u64 (c.getD (0+a.toNat) 0)))) ((2:Int)^(Min.min d.toNat 64)))),d,e,())else none else none else none else none else none else none else if decide (0<=a)then if decide (a<(c.length:Int))then if decide (d<0)then none else if decide (0<=a)then if decide (a<(c.length:Int))then g29 (wrap .i64 (a+1),b,c.set (0+a.toNat) (wrap .u32 (Int.fdiv (wrap .u64 (0+(wrap .u64 (c.getD (0+a.toNat) 0)))) ((2:Int)^(Min.min d.toNat 64)))),d,e,())else none else none else none else none else if decide (e.length<=1000000000000)then if decide (c.length<=1000000000000)then some ((List.take (List.length (List.dropWhile (fun(y30:Int)=>y30==0) (List.reverseAux e []))) e,List.take (List.length (List.dropWhile (fun(y31:Int)=>y31==0) (List.reverseAux c []))) c),())else none else none) x28.1 x28.2.1 x28.2.2.2.1 x28.2.2.1 x28.2.2.2.2.1
abbrev P.a9i (k:Nat) (x19:i_nat_div.B) (g20:i_nat_div.B->i_nat_div.C):i_nat_div.C:=
 (fun(a d e h:Int) (b c f:List Int)=>if decide (a>=0)then if decide (0<=(wrap .i64 (a+(b.length:Int))))then if decide ((wrap .i64 (a+(b.length:Int)))<(c.length:Int))then if decide (0<=(wrap .i64 ((wrap .i64 (a+(b.length:Int))) - 1)))then if decide ((wrap .i64 ((wrap .i64 (a+(b.length:Int))) - 1))<(c.length:Int))then if decide (d=0)then none else if decide (d=0)then none else loopP (P.b2z g20) k (wrap .u64 (Int.tdiv (wrap .u64 ((wrap .u64 ((wrap .u64 (c.getD (0+(Int.toNat (wrap .i64 (a+(b.length:Int))))) 0))*4294967296))+(wrap .u64 (c.getD (0+(Int.toNat (wrap .i64 ((wrap .i64 (a+(b.length:Int))) - 1)))) 0)))) d),e,Int.tmod (wrap .u64 ((wrap .u64 ((wrap .u64 (c.getD (0+(Int.toNat (wrap .i64 (a+(b.length:Int))))) 0))*4294967296))+(wrap .u64 (c.getD (0+(Int.toNat (wrap .i64 ((wrap .i64 (a+(b.length:Int))) - 1)))) 0)))) d,c,wrap .i64 (a+(b.length:Int)),d,a,b,f,h,())else none else none else none else none else if decide (c.length<=1000000000000)then loopP P.a9h k (0,(List.length (List.take (List.length (List.dropWhile (fun(y32:Int)=>y32==0) (List.reverseAux c []))) c):Int),List.take (List.length (List.dropWhile (fun(y33:Int)=>y33==0) (List.reverseAux c []))) c,h,f,())else none) x19.1 x19.2.2.2.1 x19.2.2.2.2.1 x19.2.2.2.2.2.2.1 x19.2.1 x19.2.2.1 x19.2.2.2.2.2.1
def P.d0i (k:Nat) (x:List Int×List Int×Unit):i_nat_div.C:=
 (S.a1m (x.1,x.2.1,())).bind fun y0=>if decide (y0.1<0)then some (([],x.1),())else if(x.2.1.length:Int)==1 then if decide (0<(x.2.1.length:Int))then(S.a2p (x.1,x.2.1.getD 0 0,())).bind fun y1=>if decide ((List.length [y1.1.2])<=1000000000000)then some ((y1.1.1,List.take (List.length (List.filter.match_1 (fun(y2:Bool)=>List Int) (y1.1.2==0) (fun(y3:Unit)=>[]) (fun(y4:Unit)=>[y1.1.2]))) [y1.1.2]),())else none else none else if decide (0<=(wrap .i64 ((x.2.1.length:Int) - 1)))then if decide ((wrap .i64 ((x.2.1.length:Int) - 1))<(x.2.1.length:Int))then(S.a3a (x.2.1.getD (Int.toNat (wrap .i64 ((x.2.1.length:Int) - 1))) 0,())).bind fun y5=>(S.a3j (x.1,y5.1,())).bind fun y6=>(S.a3j (x.2.1,y5.1,())).bind fun y7=>if decide (y7.1.length<=1000000000000)then if decide (0<=(wrap .i64 ((List.length (List.take (List.length (List.dropWhile (fun(y8:Int)=>y8==0) (List.reverseAux y7.1 []))) y7.1):Int) - 1)))then if decide ((wrap .i64 ((List.length (List.take (List.length (List.dropWhile (fun(y9:Int)=>y9==0) (List.reverseAux y7.1 []))) y7.1):Int) - 1))<(List.length (List.take (List.length (List.dropWhile (fun(y10:Int)=>y10==0) (List.reverseAux y7.1 []))) y7.1):Int))then if decide (0<=(wrap .i64 ((List.length (List.take (List.length (List.dropWhile (fun(y11:Int)=>y11==0) (List.reverseAux y7.1 []))) y7.1):Int) - 2)))then if decide ((wrap .i64 ((List.length (List.take (List.length (List.dropWhile (fun(y12:Int)=>y12==0) (List.reverseAux y7.1 []))) y7.1):Int) - 2))<(List.length (List.take (List.length (List.dropWhile (fun(y13:Int)=>y13==0) (List.reverseAux y7.1 []))) y7.1):Int))then if decide (0<=(wrap .i64 ((y6.1.length:Int) - (List.length (List.take (List.length (List.dropWhile (fun(y14:Int)=>y14==0) (List.reverseAux y7.1 []))) y7.1):Int))))then if decide ((wrap .i64 ((y6.1.length:Int) - (List.length (List.take (List.length (List.dropWhile (fun(y15:Int)=>y15==0) (List.reverseAux y7.1 []))) y7.1):Int)))<=(wrap .i64 ((y6.1.length:Int) - (List.length (List.take (List.length (List.dropWhile (fun(y16:Int)=>y16==0) (List.reverseAux y7.1 []))) y7.1):Int))))then if decide (((wrap .i64 ((y6.1.length:Int) - (List.length (List.take (List.length (List.dropWhile (fun(y17:Int)=>y17==0) (List.reverseAux y7.1 []))) y7.1):Int)))*4)<=281474976710656)then loopP (P.a9i k) k (wrap .i64 ((List.length (List.replicate (Int.toNat (wrap .i64 ((y6.1.length:Int) - (List.length (List.take (List.length (List.dropWhile (fun(y34:Int)=>y34==0) (List.reverseAux y7.1 []))) y7.1):Int)))) (0:Int)):Int) - 1),List.take (List.length (List.dropWhile (fun(y35:Int)=>y35==0) (List.reverseAux y7.1 []))) y7.1,y6.1,wrap .u64 (List.getD (List.take (List.length (List.dropWhile (fun(y36:Int)=>y36==0) (List.reverseAux y7.1 []))) y7.1) (0+(Int.toNat (wrap .i64 ((List.length (List.take (List.length (List.dropWhile (fun(y37:Int)=>y37==0) (List.reverseAux y7.1 []))) y7.1):Int) - 1)))) 0),wrap .u64 (List.getD (List.take (List.length (List.dropWhile (fun(y38:Int)=>y38==0) (List.reverseAux y7.1 []))) y7.1) (0+(Int.toNat (wrap .i64 ((List.length (List.take (List.length (List.dropWhile (fun(y39:Int)=>y39==0) (List.reverseAux y7.1 []))) y7.1):Int) - 2)))) 0),List.replicate (Int.toNat (wrap .i64 ((y6.1.length:Int) - (List.length (List.take (List.length (List.dropWhile (fun(y40:Int)=>y40==0) (List.reverseAux y7.1 []))) y7.1):Int)))) 0,y5.1,())else none else none else none else none else none else none else none else none else none else none
theorem id_tail (g:(Int×((List Int)×((List Int)×(Int×(Int×((List Int)×(Int×Unit)))))))->(Option (((List Int)×(List Int))×Unit))) (F:Option (((List Int)×(List Int))×Unit)) {u0 vs:List Int} {m j:Nat} {top next sh:Int}
  (h0:dig B32 u0=true) (hv:dig B32 vs=true) (hN:u0.length=m+vs.length) (hbig:u0.length<=1000000000) (hj:j<m) (hV:0<a0c B32 vs)
  (hg:g ((j:Int) - 1,(vs,(ldU B32 (a0c B32 vs) u0 j,(top,(next,(ldQ B32 (a0c B32 vs) u0 m j,(sh,())))))))=F)
  (q:Nat) (hq:q<4294967296) (h1:ldW B32 (a0c B32 vs) u0 j/a0c B32 vs<=q) (h2:q*a0c B32 vs<ldW B32 (a0c B32 vs) u0 j+a0c B32 vs) (q':Int) (hq':q'=(q:Int)):
  (if((decide ((0:Int)<=(IntKind.wrap .i64 (((j+vs.length:Nat):Int)+(1:Int)))))=true)then(if((decide (((IntKind.wrap .i64 (((j+vs.length:Nat):Int)+(1:Int)))+(0:Int))<=((List.length (ldU B32 (a0c B32 vs) u0 (j+1))):Int)))=true)then(if((decide ((0:Int)<=(j:Int)))=true)then(if((decide ((j:Int)<=(IntKind.wrap .i64 (((j+vs.length:Nat):Int)+(1:Int)))))=true)then(Option.bind (S.a8w ((Go.Cm.seen (ldU B32 (a0c B32 vs) u0 (j+1)) ((0:Nat)+(Int.toNat (j:Int))) ((Int.toNat (IntKind.wrap .i64 (((j+vs.length:Nat):Int)+(1:Int)))) - (Int.toNat (j:Int)))),(vs,(q',())))) (fun(y26:(Bool×((List Int)×Unit)))=>(if(y26.1=true)then(if((decide ((0:Int)<=(j:Int)))=true)then(if((decide ((j:Int)<((List.length (ldQ B32 (a0c B32 vs) u0 m (j+1))):Int)))=true)then(g ((IntKind.wrap .i64 ((j:Int) - (1:Int))),(vs,((Go.Cm.splice (ldU B32 (a0c B32 vs) u0 (j+1)) y26.2.1 ((0:Nat)+(Int.toNat (j:Int)))),(top,(next,((List.set (ldQ B32 (a0c B32 vs) u0 m (j+1)) ((0:Nat)+(Int.toNat (j:Int))) (IntKind.wrap .u32 (IntKind.wrap .u64 (q' - (1:Int))))),(sh,()))))))))
 else none)
 else none)
 else(if((decide ((0:Int)<=(j:Int)))=true)then(if((decide ((j:Int)<((List.length (ldQ B32 (a0c B32 vs) u0 m (j+1))):Int)))=true)then(g ((IntKind.wrap .i64 ((j:Int) - (1:Int))),(vs,((Go.Cm.splice (ldU B32 (a0c B32 vs) u0 (j+1)) y26.2.1 ((0:Nat)+(Int.toNat (j:Int)))),(top,(next,((List.set (ldQ B32 (a0c B32 vs) u0 m (j+1)) ((0:Nat)+(Int.toNat (j:Int))) (IntKind.wrap .u32 q')),(sh,()))))))))
 else none)
 else none))))
 else none)
 else none)
 else none)
 else none)=F:=by
 subst hq';have hhi:=a1p hv;have hA:(u0.take j).length=j:=by simp;omega
 have hQ:=ld_Q a0e hV h0 (show j<u0.length by omega) hj;have hQl:(ldQ B32 (a0c B32 vs) u0 m (j+1)).length=m:=by unfold ldQ;rw[List.length_append,List.length_replicate,a2x];omega
 have hUl:=d3z a0e hV h0 hN hj hhi;have hs:=ld_step a0e hV h0 (show j<u0.length by omega);have hs':=ld_U a0e hV h0 (show j<u0.length by omega);have hvl:vs.length<=vs.length+1:=by omega
 have hve:∀X,X<B32^(vs.length+1)->fd B32 (u0.length - j) X=fd B32 (vs.length+1) X++List.replicate (m - 1 - j) 0:=by
  intro X hX;rw[show u0.length - j=(vs.length+1)+(m - 1 - j) by omega,fd_pad hX]
 have hVl:a0c B32 vs<B32^(vs.length+1):=Nat.lt_of_lt_of_le hhi (Nat.pow_le_pow_right (by decide) hvl);generalize hn:vs.length=n at*;generalize hVV:a0c B32 vs=V at*;generalize hUU:ldW B32 V u0 j=U at*;have hdm:=Nat.mod_add_div U V;have hml:=Nat.mod_lt U hV;obtain⟨n1,n2⟩:=near hV h1 h2;generalize U/V=Q at*;generalize U%V=M at*;have hM:=hve M (by omega);have hU':=hve U hUl;rw[hM]at hs';rw[hU']at hs;generalize hR:List.replicate (m - 1 - j) (0:Int)=R at*;have hRl:R.length=m - 1 - j:=by rw[<-hR,List.length_replicate]
 have e1:(0:Int)<=(j:Int):=by omega
 have e2:(j:Int)<(m:Int):=by omega
 have e3:(0:Int)<=((j+n:Nat):Int)+1:=by omega
 have e4:(j:Int)<=((j+n:Nat):Int)+1:=by omega
 have hlen:(ldU B32 V u0 (j+1)).length=j+n+1+R.length:=by
  rw[hs,List.length_append,List.length_append,hA,a2x];omega
 have e5:((j+n:Nat):Int)+1+0<=((j+n+1+R.length:Nat):Int):=by omega
 rw[wr (x:=((j+n:Nat):Int)+1) (by omega) (by omega),hlen,hQl];simp only[e1,e2,e3,e4,e5,decide_true,if_true,Nat.zero_add,Int.toNat_natCast];have hseen:seen (ldU B32 V u0 (j+1)) j ((((j+n:Nat):Int)+1).toNat - j)=fd B32 (n+1) U:=by
  unfold seen;rw[hs,List.drop_left' hA,show(((j+n:Nat):Int)+1).toNat - j=n+1 by omega];exact List.take_left' (a2x _ _ _)
 have hspl:∀X,splice (ldU B32 V u0 (j+1)) (fd B32 (n+1) X) j=u0.take j++(fd B32 (n+1) X++R):=by
  intro X;unfold splice;rw[hs,List.take_left' hA,a2x,<-List.drop_drop,List.drop_left' hA,List.drop_left' (a2x _ _ _),List.append_assoc]
 rw[hseen];have hd:a0c B32 (fd B32 (n+1) U)=U:=by rw[b8m,Nat.mod_eq_of_lt hUl]
 unfold S.a8w;dsimp only;rw[a2x,hd,hVV,hn,Int.toNat_natCast,if_pos ⟨b5u (by decide) _ _,hv,by omega,by omega,by omega,by omega,by rw[Nat.mul_comm];omega⟩];rw[Nat.mul_comm q V]at n1 n2
 by_cases hle:V*q<=U
 ·have hqe:=n1 hle;have hsub:U - V*q=M:=by rw[hqe];omega
  rw[if_pos hle,Option.bind_some,hsub];dsimp only;rw[if_neg (by simp),hspl,<-hs',w32 (by omega) (by omega),hqe,hQ,wr (by omega) (by omega)];exact hg
 ·have hqe:=n2 (by omega);have hsub:U+V - V*q=M:=by rw[hqe,Nat.mul_add];omega
  rw[if_neg hle,Option.bind_some,hsub];dsimp only;rw[if_pos rfl,hspl,<-hs',wu (x:=(q:Int) - 1) (by omega) (by omega),w32 (by omega) (by omega),hqe,show((Q+1:Nat):Int) - 1=((Q:Nat):Int) by omega,hQ,wr (by omega) (by omega)];exact hg
theorem id_inner (g:(Int×((List Int)×((List Int)×(Int×(Int×((List Int)×(Int×Unit)))))))->(Option (((List Int)×(List Int))×Unit))) (F:Option (((List Int)×(List Int))×Unit)) {u0 vs:List Int} {m j:Nat} {sh:Int}
  (h0:dig B32 u0=true) (hv:dig B32 vs=true) (hN:u0.length=m+vs.length) (hbig:u0.length<=1000000000) (hj:j<m) (hn2:2<=vs.length) (hlo:B32^(vs.length - 1)<=a0c B32 vs)
  (hg:g ((j:Int) - 1,(vs,(ldU B32 (a0c B32 vs) u0 j,(((a0c B32 vs/B32^(vs.length - 1):Nat):Int),(((a0c B32 vs/B32^(vs.length - 2)%B32:Nat):Int),(ldQ B32 (a0c B32 vs) u0 m j,(sh,())))))))=F) (w:Nat):
  ∀q r k:Nat,q*(a0c B32 vs/B32^(vs.length - 1))+r=ldW B32 (a0c B32 vs) u0 j/B32^(vs.length - 1)->ldW B32 (a0c B32 vs) u0 j/a0c B32 vs<=q->r<4294967296->4294967296 - r<=w->w<k->q<=18446744073709551615->
  loopP (P.b2z g) k ((q:Int),(((a0c B32 vs/B32^(vs.length - 2)%B32:Nat):Int),((r:Int),(ldU B32 (a0c B32 vs) u0 (j+1),(((j+vs.length:Nat):Int),(((a0c B32 vs/B32^(vs.length - 1):Nat):Int),((j:Int),(vs,(ldQ B32 (a0c B32 vs) u0 m (j+1),(sh,()))))))))))=F:=by
 have hV:0<a0c B32 vs:=Nat.lt_of_lt_of_le (Nat.pow_pos (by decide)) hlo;have hhi:=a1p hv;have hU:=ld_lt a0e hV h0 (show j<u0.length by omega);have win:=ld_win a0e hn2 hlo hhi hU;have htail:=fun q hq h1 h2 q' hq'=>id_tail g F h0 hv hN hbig hj hV hg q hq h1 h2 q' hq'
 have g3:=d8a a0e hV h0 hN hj hhi (i:=vs.length - 2) (by omega);have hsl:(ldU B32 (a0c B32 vs) u0 (j+1)).length=m+vs.length:=by unfold ldU;rw[List.length_append,a2x,List.length_take];omega
 have hv1B:a0c B32 vs/B32^(vs.length - 1)<4294967296:=by
  have:a0c B32 vs/B32^(vs.length - 1)<B32:=by
   rw[Nat.div_lt_iff_lt_mul (Nat.pow_pos (by decide)),Nat.mul_comm,<-Nat.pow_succ,show(vs.length - 1).succ=vs.length by omega];exact hhi
  exact this
 have hv1:=win.hv1;generalize hX:ldW B32 (a0c B32 vs) u0 j/B32^(vs.length - 1)=X at*;generalize hv1e:a0c B32 vs/B32^(vs.length - 1)=v1 at*;have hv2B:a0c B32 vs/B32^(vs.length - 2)%B32<4294967296:=win.hv2;have hu2B:ldW B32 (a0c B32 vs) u0 j/B32^(vs.length - 2)%B32<4294967296:=win.hu2;generalize hv2e:a0c B32 vs/B32^(vs.length - 2)%B32=v2 at*;generalize hu2e:ldW B32 (a0c B32 vs) u0 j/B32^(vs.length - 2)%B32=u2 at*
 induction w with
 |zero=>intro q r k _ _ hr hw;omega
 |succ w ih=>
  intro q r k e hq hr hw hk hqb;obtain⟨k,rfl⟩:∃k',k=k'+1:=⟨k - 1,by omega⟩
  rw[a0l];unfold P.b2z;dsimp only;have c5:(0:Int)<=((j+vs.length:Nat):Int) - 2:=by omega
  have c6:((j+vs.length:Nat):Int) - 2<((m+vs.length:Nat):Int):=by omega
  have hwl:((m+vs.length:Nat):Int)=((List.length (ldU B32 (a0c B32 vs) u0 (j+1)):Nat):Int):=by rw[hsl]
  rw[hwl]at c6;have hstep:ldW B32 (a0c B32 vs) u0 j/a0c B32 vs<q->((r:Int)+(v1:Int)>=4294967296->(q - 1)<4294967296/\ldW B32 (a0c B32 vs) u0 j/a0c B32 vs<=q - 1/\(q - 1)*a0c B32 vs<ldW B32 (a0c B32 vs) u0 j+a0c B32 vs/\IntKind.wrap .u64 ((q:Int) - 1)=((q - 1:Nat):Int))/\(¬((r:Int)+(v1:Int)>=4294967296)->loopP (P.b2z g) k (IntKind.wrap .u64 ((q:Int) - 1),((v2:Int),((r:Int)+(v1:Int),(ldU B32 (a0c B32 vs) u0 (j+1),(((j+vs.length:Nat):Int),((v1:Int),((j:Int),(vs,(ldQ B32 (a0c B32 vs) u0 m (j+1),(sh,()))))))))))=F):=by
   intro hlt;have hq1:1<=q:=Nat.lt_of_le_of_lt (Nat.zero_le _) hlt;have eq1:IntKind.wrap .u64 ((q:Int) - 1)=((q - 1:Nat):Int):=by
    rw[wu (by omega) (by omega)];omega
   have e':(q - 1)*v1+(r+v1)=X:=by
    obtain⟨p,rfl⟩:∃p,q=p+1:=⟨q - 1,by omega⟩
    rw[Nat.add_mul,Nat.one_mul]at e;rw[Nat.add_sub_cancel];omega
   constructor
   ·intro hge;have hd:=win.done e' (.inr (show(4294967296:Nat)<=r+v1 by omega));exact⟨hd.1,by omega,hd.2,eq1⟩
   ·intro hge;rw[eq1,<-Int.natCast_add];exact ih (q - 1) (r+v1) k e' (by omega) (by omega) (by omega) (by omega) (by omega)
  rw[wu (x:=(r:Int)+(v1:Int)) (by omega) (by omega)]
  by_cases b1:q>=4294967296
  ·rw[if_pos (decide_eq_true (show(q:Int)>=4294967296 by omega))];obtain⟨s1,s2⟩:=hstep (win.down e hq (.inl b1))
   by_cases b2:(r:Int)+(v1:Int)>=4294967296
   ·rw[if_pos (decide_eq_true b2)];obtain⟨t1,t2,t3,t4⟩:=s1 b2;exact htail (q - 1) t1 t2 t3 _ t4
   ·rw[if_neg (by simpa using b2)];exact s2 b2
  ·rw[if_neg (by simp;omega)];rw[wr (x:=((j+vs.length:Nat):Int) - 2) (by omega) (by omega),if_pos (decide_eq_true c5),if_pos (decide_eq_true c6),show 0+(((j+vs.length:Nat):Int) - 2).toNat=j+(vs.length - 2) by omega,g3];have hqv:q*v2<=4294967295*4294967295:=Nat.mul_le_mul (by omega) (by omega);rw[<-Int.natCast_mul,wu (x:=((q*v2:Nat):Int)) (by omega) (by omega),wu (x:=(r:Int)*4294967296) (by omega) (by omega),wu (x:=(u2:Int)) (by omega) (by omega),wu (x:=(r:Int)*4294967296+(u2:Int)) (by omega) (by omega)]
   by_cases b3:q*v2>r*4294967296+u2
   ·rw[if_pos (decide_eq_true (show((q*v2:Nat):Int)>(r:Int)*4294967296+(u2:Int) by omega))];obtain⟨s1,s2⟩:=hstep (win.down e hq (.inr b3))
    by_cases b2:(r:Int)+(v1:Int)>=4294967296
    ·rw[if_pos (decide_eq_true b2)];obtain⟨t1,t2,t3,t4⟩:=s1 b2;exact htail (q - 1) t1 t2 t3 _ t4
    ·rw[if_neg (by simpa using b2)];exact s2 b2
   ·rw[if_neg (by simp;omega)];have hd:=win.done e (.inl ⟨show q<B32 by show q<4294967296;omega,show q*v2<=r*B32+u2 by show q*v2<=r*4294967296+u2;omega⟩);exact htail q hd.1 hq hd.2 _ rfl
theorem id_down {R sh:Nat} {qs:List Int} {n:Nat} (hn:(nd B32 R).length=n) (hsh:sh<=31) (hb:n<=1000000000) (hq:dig B32 qs=true) (hql:qs.length<=1000000000) (k:Nat) (hk:n<k):
  loopP P.a9h k ((0:Int),((n:Int),(nd B32 R,((sh:Int),(qs,())))))=some ((nd B32 (a0c B32 qs),nd B32 (R/2^sh)),()):=by
 have hRn:R<B32^n:=(a4j a0e R n).1 (by omega);have hpow:0<2^sh:=Nat.pow_pos (by decide);have hndfd:nd B32 R=fd B32 n R:=by
  have:=c7g (B:=B32) (by decide) (a3w a0e R);rw[hn,a0i a0e]at this;exact this.symm
 have key:=a0f (k:=k) (b:=P.a9h) (n:=n) (st:=fun i=>((i:Int),(n:Int),fd B32 i (R/2^sh)++fd B32 (n - i) (R/B32^i),(sh:Int),qs,())) (F:=fun i=>some ((nd B32 (a0c B32 qs),nd B32 (R/2^sh)),())) (fun i g hi hg=>by
  unfold P.a9h;dsimp only at hg ⊢;refine Eq.trans ?_ hg;clear hg;have hlen:(fd B32 i (R/2^sh)++fd B32 (n - i) (R/B32^i)).length=n:=by rw[List.length_append,a2x,a2x];omega
  have hfl:(fd B32 i (R/2^sh)).length=i:=a2x _ _ _;have e1:(i:Int)<(n:Int):=by omega
  have e2:(0:Int)<=(i:Int):=by omega
  have e3:¬((sh:Int)<0):=by omega
  have e4:(0:Int)<=(i:Int)+1:=by omega
  have emin:Min.min sh 64=sh:=by omega
  have ep:((2:Int)^sh)=((2^sh:Nat):Int):=by rw[Int.natCast_pow];rfl
  rw[hlen,wr (x:=(i:Int)+1) (by omega) (by omega)];simp only[e1,e2,e3,e4,decide_true,decide_false,if_true,if_false,Bool.false_eq_true,Nat.zero_add,Int.toNat_natCast];rw[emin,ep];have hsplit:fd B32 (n - i) (R/B32^i)=((R/B32^i%B32:Nat):Int)::fd B32 (n - (i+1)) (R/B32^(i+1)):=by
   rw[show n - i=(n - (i+1))+1 by omega,fd,Nat.div_div_eq_div_mul,Nat.pow_succ]
  rw[hsplit];simp only[b2v hfl,b1l hfl];have hx:R/B32^i%B32<4294967296:=Nat.mod_lt _ (by decide);have hy:R/B32^(i+1)%B32<4294967296:=Nat.mod_lt _ (by decide);have hval:∀Y:Nat,Y=R/B32^(i+1)%B32->IntKind.wrap .u32 (Int.fdiv (((Y*4294967296+R/B32^i%B32:Nat):Int)) ((2^sh:Nat):Int))=((R/2^sh/B32^i%B32:Nat):Int):=by
   intro Y hY;rw[Int.fdiv_eq_ediv_of_nonneg _ (by omega),<-Int.natCast_ediv,c4q];have e5:∀z:Nat,((z:Nat):Int)%4294967296=((z%B32:Nat):Int):=by
    intro z;show _=((z%4294967296:Nat):Int)
    omega
   rw[e5];congr 1;have e6:Y*4294967296+R/B32^i%B32=R/B32^i%(B32*B32):=by
    rw[hY,Nat.mod_mul,Nat.div_div_eq_div_mul,<-Nat.pow_succ,Nat.add_comm,Nat.mul_comm]
   have e7:R/2^sh/B32^i=R/B32^i/2^sh:=by rw[Nat.div_div_eq_div_mul,Nat.div_div_eq_div_mul,Nat.mul_comm]
   have e8:B32*B32=2^sh*(B32*2^(32 - sh)):=by
    have:B32=2^sh*2^(32 - sh):=by rw[<-Nat.pow_add,show sh+(32 - sh)=32 by omega]
    calc B32*B32=2^sh*2^(32 - sh)*B32:=by rw[<-this]
     _=2^sh*(B32*2^(32 - sh)):=by ac_rfl
   rw[e6,e7,e8,Nat.mod_mul_right_div_self,Nat.mod_mul_right_mod]
  by_cases hj:(i:Int)+1<(n:Int)
  ·have hj':fd B32 (n - (i+1)) (R/B32^(i+1))=((R/B32^(i+1)%B32:Nat):Int)::fd B32 (n - (i+1) - 1) (R/B32^(i+1)/B32):=by
    conv=>lhs;rw[show n - (i+1)=(n - (i+1) - 1)+1 by omega,fd]
   have hg2:(fd B32 i (R/2^sh)++((R/B32^i%B32:Nat):Int)::fd B32 (n - (i+1)) (R/B32^(i+1))).getD ((i:Int)+1).toNat 0=((R/B32^(i+1)%B32:Nat):Int):=by
    rw[hj',show((i:Int)+1).toNat=i+1 by omega,List.append_cons];exact b1l (by rw[List.length_append,hfl];rfl)
   rw[if_pos (decide_eq_true hj),if_pos (decide_eq_true hj),hg2];rw[wu (x:=((R/B32^(i+1)%B32:Nat):Int)) (by omega) (by omega),wu (x:=((R/B32^(i+1)%B32:Nat):Int)*4294967296) (by omega) (by omega),wu (x:=((R/B32^i%B32:Nat):Int)) (by omega) (by omega),wu (x:=((R/B32^(i+1)%B32:Nat):Int)*4294967296+((R/B32^i%B32:Nat):Int)) (by omega) (by omega),show((R/B32^(i+1)%B32:Nat):Int)*4294967296+((R/B32^i%B32:Nat):Int)=((R/B32^(i+1)%B32*4294967296+R/B32^i%B32:Nat):Int) by omega,hval _ rfl,<-fd_snoc];rfl
  ·rw[if_neg (by simpa using hj)];have hn1:n=i+1:=by omega
   have h0:0=R/B32^(i+1)%B32:=by rw[<-hn1,Nat.div_eq_of_lt hRn,Nat.zero_mod]
   rw[wu (x:=((R/B32^i%B32:Nat):Int)) (by omega) (by omega),wu (x:=0+((R/B32^i%B32:Nat):Int)) (by omega) (by omega),show 0+((R/B32^i%B32:Nat):Int)=((0*4294967296+R/B32^i%B32:Nat):Int) by omega,hval 0 h0,<-fd_snoc];rfl) (fun g=>by
  unfold P.a9h;dsimp only;have hRs:R/2^sh<B32^n:=Nat.lt_of_le_of_lt (Nat.div_le_self _ _) hRn;have hl1:qs.length<=1000000000000:=by omega
  have hfl:(fd B32 n (R/2^sh)).length=n:=a2x _ _ _;have hl2:(fd B32 n (R/2^sh)).length<=1000000000000:=by omega
  rw[if_neg (by simp),Nat.sub_self,show fd B32 0 (R/B32^n)=[]from rfl,List.append_nil,if_pos (decide_eq_true hl1),if_pos (decide_eq_true hl2),d4a a0e _ _ rfl hq,d4a a0e _ _ rfl (b5u (by decide) _ _),nd_fd a0e hRs]) hk
 rw[show fd B32 0 (R/2^sh)++fd B32 (n - 0) (R/B32^0)=nd B32 R by rw[hndfd,Nat.pow_zero,Nat.div_one];rfl]at key;exact key
theorem id_outer {u0 vs:List Int} {m sh:Nat}
  (h0:dig B32 u0=true) (hv:dig B32 vs=true) (hN:u0.length=m+vs.length) (hbig:u0.length<=1000000000) (hn2:2<=vs.length) (hlo:B32^(vs.length - 1)<=a0c B32 vs) (hsh:sh<=31) (ht:a0c B32 (u0.drop m)<a0c B32 vs) (k:Nat) (hk:k=u0.length+4294967310):
  loopP (P.a9i k) k ((m:Int) - 1,(vs,(u0,(((a0c B32 vs/B32^(vs.length - 1):Nat):Int),(((a0c B32 vs/B32^(vs.length - 2)%B32:Nat):Int),(List.replicate m 0,((sh:Int),())))))))=some ((nd B32 (a0c B32 u0/a0c B32 vs),nd B32 (a0c B32 u0%a0c B32 vs/2^sh)),()):=by
 have hV:0<a0c B32 vs:=Nat.lt_of_lt_of_le (Nat.pow_pos (by decide)) hlo;have hhi:=a1p hv;obtain⟨f1,f2⟩:=ld_first a0e hV h0 (show m<=u0.length by omega) ht;have key:=a0f (k:=k) (b:=P.a9i k) (n:=m) (st:=fun i=>((m:Int) - 1 - (i:Int),vs,ldU B32 (a0c B32 vs) u0 (m - i),((a0c B32 vs/B32^(vs.length - 1):Nat):Int),((a0c B32 vs/B32^(vs.length - 2)%B32:Nat):Int),ldQ B32 (a0c B32 vs) u0 m (m - i),(sh:Int),())) (F:=fun i=>some ((nd B32 (a0c B32 u0/a0c B32 vs),nd B32 (a0c B32 u0%a0c B32 vs/2^sh)),())) (fun i g hi hg=>by
  unfold P.a9i;dsimp only at hg ⊢;obtain⟨j,hj⟩:∃j,m - i=j+1:=⟨m - i - 1,by omega⟩
  have hjm:j<m:=by omega
  rw[show m - (i+1)=j by omega,show(m:Int) - 1 - ((i+1:Nat):Int)=(j:Int) - 1 by omega]at hg;rw[hj,show(m:Int) - 1 - (i:Int)=(j:Int) by omega];have hU:=ld_lt a0e hV h0 (show j<u0.length by omega);have win:=ld_win a0e hn2 hlo hhi hU;have g3:=d8a a0e hV h0 hN hjm hhi (i:=vs.length) (by omega);have g4:=d8a a0e hV h0 hN hjm hhi (i:=vs.length - 1) (by omega);have hsl:(ldU B32 (a0c B32 vs) u0 (j+1)).length=m+vs.length:=by unfold ldU;rw[List.length_append,a2x,List.length_take];omega
  have hv1B:a0c B32 vs/B32^(vs.length - 1)<4294967296:=by
   have:a0c B32 vs/B32^(vs.length - 1)<B32:=by
    rw[Nat.div_lt_iff_lt_mul (Nat.pow_pos (by decide)),Nat.mul_comm,<-Nat.pow_succ,show(vs.length - 1).succ=vs.length by omega];exact hhi
   exact this
  have hv1:=win.hv1;have hxlt:=win.xlt;have hstart:=win.start;have hUl:=d3z a0e hV h0 hN hjm hhi;have hinner:=id_inner g _ h0 hv hN hbig hjm hn2 hlo hg 4294967296;have hXe:ldW B32 (a0c B32 vs) u0 j/B32^vs.length%B32*4294967296+ldW B32 (a0c B32 vs) u0 j/B32^(vs.length - 1)%B32=ldW B32 (a0c B32 vs) u0 j/B32^(vs.length - 1):=by
   have hq:ldW B32 (a0c B32 vs) u0 j/B32^vs.length<B32:=by
    rw[Nat.div_lt_iff_lt_mul (Nat.pow_pos (by decide)),Nat.mul_comm,<-Nat.pow_succ];exact hUl
   rw[Nat.mod_eq_of_lt hq];have e:B32^vs.length=B32^(vs.length - 1)*B32:=by rw[<-Nat.pow_succ];congr 1;omega
   rw[e,<-Nat.div_div_eq_div_mul,Nat.mul_comm];exact Nat.div_add_mod _ _
  have hu1:ldW B32 (a0c B32 vs) u0 j/B32^vs.length%B32<4294967296:=Nat.mod_lt _ (by decide);have hu0:ldW B32 (a0c B32 vs) u0 j/B32^(vs.length - 1)%B32<4294967296:=Nat.mod_lt _ (by decide);generalize hX:ldW B32 (a0c B32 vs) u0 j/B32^(vs.length - 1)=X at*;generalize hv1e:a0c B32 vs/B32^(vs.length - 1)=v1 at*;generalize ldW B32 (a0c B32 vs) u0 j/B32^vs.length%B32=ua at*;generalize X%B32=ub at*;have c0:(j:Int)>=0:=by omega
  have c1:(0:Int)<=((j+vs.length:Nat):Int):=by omega
  have c2:((j+vs.length:Nat):Int)<((m+vs.length:Nat):Int):=by omega
  have c3:(0:Int)<=((j+vs.length:Nat):Int) - 1:=by omega
  have c4:((j+vs.length:Nat):Int) - 1<((m+vs.length:Nat):Int):=by omega
  have c7:¬((v1:Int)=0):=by omega
  rw[hsl,<-Int.natCast_add j,wr (x:=((j+vs.length:Nat):Int)) (by omega) (by omega),wr (x:=((j+vs.length:Nat):Int) - 1) (by omega) (by omega)];simp only[c0,c1,c2,c3,c4,c7,decide_true,decide_false,if_true,if_false,Bool.false_eq_true];rw[show 0+(((j+vs.length:Nat):Int)).toNat=j+vs.length by omega,show 0+(((j+vs.length:Nat):Int) - 1).toNat=j+(vs.length - 1) by omega,g3,g4];rw[wu (x:=(ua:Int)) (by omega) (by omega),wu (x:=(ub:Int)) (by omega) (by omega),wu (x:=(ua:Int)*4294967296) (by omega) (by omega),wu (x:=(ua:Int)*4294967296+(ub:Int)) (by omega) (by omega),show(ua:Int)*4294967296+(ub:Int)=(X:Int) by omega,Int.tdiv_eq_ediv_of_nonneg (by omega),Int.tmod_eq_emod_of_nonneg (by omega),<-Int.natCast_ediv,<-Int.natCast_emod];have hX18:X<=18446744073709551615:=by omega
  have hXd:X/v1<=X:=Nat.div_le_self _ _;have hml:=Nat.mod_lt X hv1;have hdm:X/v1*v1+X%v1=X:=by rw[Nat.mul_comm];exact Nat.div_add_mod _ _
  generalize X/v1=qq at*;generalize X%v1=rr at*;rw[wu (x:=(qq:Int)) (by omega) (by omega)];exact hinner qq rr k hdm hstart (by omega) (by omega) (by omega) (by omega)) (fun g=>by
  unfold P.a9i;dsimp only;rw[if_neg (by simp;omega),Nat.sub_self];have hVN:a0c B32 vs<=B32^u0.length:=Nat.le_trans (Nat.le_of_lt hhi) (Nat.pow_le_pow_right (by decide) (by omega));obtain⟨l1,l2,l3,l4,l5,l6⟩:=ld_last a0e hV h0 (show m<=u0.length by omega) ht hVN;have hul:(nd B32 (a0c B32 u0%a0c B32 vs)).length<=u0.length:=by
   rw[a4j a0e,<-l1,<-l5];exact a1p l3
  have hl1:(ldU B32 (a0c B32 vs) u0 0).length<=1000000000000:=by omega
  rw[if_pos (decide_eq_true hl1),d4a a0e _ _ rfl l3,l1,id_down rfl hsh (by omega) l4 (by omega) k (by omega),l2]) (by omega)
 rw[Nat.sub_zero,f1,f2]at key;rw[<-key,show(m:Int) - 1 - ((0:Nat):Int)=(m:Int) - 1 by omega]
def S.a4v (x:((List Int)×((List Int)×Unit))):(Option (((List Int)×(List Int))×Unit)):=if a2o B32 x.1=true/\a2o B32 x.2.1=true/\x.2.1≠ []/\x.1.length<=100000000/\x.2.1.length<=100000000 then some ((nd B32 (a0c B32 x.1/a0c B32 x.2.1),nd B32 (a0c B32 x.1%a0c B32 x.2.1)),())else none
theorem S.e3a (x r) (h:S.a4v x=some r):∃k,P.d0i k x=some r:=by
 obtain⟨as,bs,u⟩:=x;unfold S.a4v at h;dsimp only at h;split at h
 case isFalse=>cases h
 rename_i hc;obtain⟨ca,cb,hne,la,lb⟩:=hc;cases h;have da:=a1s ca;have db:=a1s cb;have hbpos:0<bs.length:=List.length_pos_iff.2 hne;have hb0:a0c B32 bs≠0:=by
  intro q;have:=a1h cb;rw[q,a1v a0e]at this;exact hne this.symm
 have hlow:=nd_low a0e hb0;rw[a1h cb]at hlow;have hhib:=a1p db;have hhia:=a1p da;have sc:S.a1m (as,(bs,()))=some (b1i (a0c B32 as) (a0c B32 bs),()):=by
  unfold S.a1m;exact if_pos ⟨ca,cb,by dsimp only;omega⟩
 refine⟨(as.length+1)+4294967310,?_⟩;unfold P.d0i;dsimp only;rw[sc,Option.bind_some];dsimp only
 by_cases hlt:a0c B32 as<a0c B32 bs
 ·rw[if_pos (decide_eq_true (c2z.2 hlt)),Nat.div_eq_of_lt hlt,Nat.mod_eq_of_lt hlt,a1v a0e,a1h ca]
 ·rw[if_neg (by simpa [c2z]using hlt)]
  by_cases h1:bs.length=1
  ·obtain⟨b0,rfl⟩:∃b0,bs=[b0]:=by
    match bs,h1 with
    | [b0],_=>exact⟨b0,rfl⟩
   rw[if_pos (by rfl),if_pos (by rfl)];have hb:a0c B32 [b0]=b0.toNat:=by simp [a0c]
   have hbd:=(a2h _ _).1 db;have hbd1:b0<4294967296:=hbd.1.2;rw[hb]at hb0 ⊢;show Option.bind (S.a2p (as,(b0,()))) _=_;unfold S.a2p;dsimp only;have hm:=Nat.mod_lt (a0c B32 as) (show 0<b0.toNat by omega);rw[if_pos ⟨da,by omega,by omega,by omega⟩,Option.bind_some];dsimp only;generalize a0c B32 as%b0.toNat=M at*;have hone:dig B32 [(M:Int)]=true:=by
    rw[a2h];refine⟨⟨by omega,?_⟩,rfl⟩;show(M:Int)<4294967296;omega
   have ht:=d4a a0e 1 [(M:Int)] rfl hone;rw[show a0c B32 [(M:Int)]=M by simp [a0c]]at ht;rw[if_pos (by rfl),<-ht];rfl
  ·rw[if_neg (by simp;omega)];have hn2:2<=bs.length:=by omega
   have c1:(0:Int)<=(bs.length:Int) - 1:=by omega
   have c2:(bs.length:Int) - 1<(bs.length:Int):=by omega
   have hbtB:a0c B32 bs/B32^(bs.length - 1)<4294967296:=by
    have:a0c B32 bs/B32^(bs.length - 1)<B32:=by
     rw[Nat.div_lt_iff_lt_mul (Nat.pow_pos (by decide)),Nat.mul_comm,<-Nat.pow_succ,show(bs.length - 1).succ=bs.length by omega];exact hhib
    exact this
   have hbt0:0<a0c B32 bs/B32^(bs.length - 1):=Nat.div_pos hlow (Nat.pow_pos (by decide));have g1:=c2y a0e db (i:=bs.length - 1) (by omega);rw[show a0c B32 bs/B32^(bs.length - 1)%B32=a0c B32 bs/B32^(bs.length - 1)from Nat.mod_eq_of_lt hbtB]at g1;have hbt1:a0c B32 bs<(a0c B32 bs/B32^(bs.length - 1)+1)*B32^(bs.length - 1):=by
    have:=Nat.lt_div_mul_add (show 0<B32^(bs.length - 1)from Nat.pow_pos (by decide)) (a:=a0c B32 bs);rw[Nat.add_mul,Nat.one_mul];exact this
   generalize hbt:a0c B32 bs/B32^(bs.length - 1)=bt at*;rw[wr (x:=(bs.length:Int) - 1) (by omega) (by omega),if_pos (decide_eq_true c1),if_pos (decide_eq_true c2),show((bs.length:Int) - 1).toNat=bs.length - 1 by omega,g1];unfold S.a3a;dsimp only;rw[if_pos ⟨by omega,by omega⟩,Option.bind_some,Int.toNat_natCast];dsimp only;obtain⟨b1,b2,b3⟩:=Go.Lib.bitLenAux_bounds 64 bt (by omega) (by omega);have hL32:Go.Lib.bitLen bt<=32:=Go.Lib.bitLen_le bt 32 (by decide) (by omega);have hL:Go.Lib.bitLen bt=Go.Lib.bitLenAux 64 bt:=rfl;rw[<-hL]at b1 b2 b3;generalize Go.Lib.bitLen bt=L at*;obtain⟨sh,hsh⟩:∃sh:Nat,sh=32 - L:=⟨_,rfl⟩
   have hsh1:sh<=31:=by omega
   have hsI:(32:Int) - (L:Int)=(sh:Int):=by omega
   rw[hsI];have hpow:0<2^sh:=Nat.pow_pos (by decide);have hd2:(bt+1)*2^sh<=B32:=by
    have h3:(bt+1)*2^sh<=2^L*2^sh:=Nat.mul_le_mul_right _ b3;rw[<-Nat.pow_add,show L+sh=32 by omega]at h3;exact h3
   have m1:S.a3j (as,((sh:Int),()))=some (fd B32 (as.length+1) (a0c B32 as*2^sh),()):=by
    unfold S.a3j;exact if_pos ⟨da,by dsimp only;omega,by dsimp only;omega,by dsimp only;omega⟩
   have m2:S.a3j (bs,((sh:Int),()))=some (fd B32 (bs.length+1) (a0c B32 bs*2^sh),()):=by
    unfold S.a3j;exact if_pos ⟨db,by dsimp only;omega,by dsimp only;omega,by dsimp only;omega⟩
   rw[m1,Option.bind_some,m2,Option.bind_some];dsimp only;have hvhi:a0c B32 bs*2^sh<B32^bs.length:=by
    have h3:a0c B32 bs*2^sh<(bt+1)*B32^(bs.length - 1)*2^sh:=Nat.mul_lt_mul_of_pos_right hbt1 hpow;have h4:(bt+1)*B32^(bs.length - 1)*2^sh=(bt+1)*2^sh*B32^(bs.length - 1):=by ac_rfl
    have h5:(bt+1)*2^sh*B32^(bs.length - 1)<=B32*B32^(bs.length - 1):=Nat.mul_le_mul_right _ hd2;have h6:B32*B32^(bs.length - 1)=B32^bs.length:=by rw[Nat.mul_comm,<-Nat.pow_succ];congr 1;omega
    omega
   have hvlo:B32^(bs.length - 1)<=a0c B32 bs*2^sh:=Nat.le_trans hlow (Nat.le_mul_of_pos_right _ hpow);have hvl:(nd B32 (a0c B32 bs*2^sh)).length=bs.length:=by
    have h3:=(a4j a0e (a0c B32 bs*2^sh) bs.length).2 hvhi;have h4:=a4j a0e (a0c B32 bs*2^sh) (bs.length - 1);have h5:¬(nd B32 (a0c B32 bs*2^sh)).length<=bs.length - 1:=by
     rw[h4];omega
    omega
   have hahi:a0c B32 as*2^sh<B32^(as.length+1):=by
    have h3:2^sh<=B32:=Nat.le_trans (Nat.pow_le_pow_right (by decide) hsh1) (by decide);rw[Nat.pow_succ];exact Nat.lt_of_lt_of_le (Nat.mul_lt_mul_of_pos_right hhia hpow) (Nat.mul_le_mul_left _ h3)
   have hab:bs.length<=as.length:=by
    rcases Nat.lt_or_ge as.length bs.length with g|g
    ·have:=b1j a0e ca cb g;omega
    ·exact g
   have htr:List.take (List.length (List.dropWhile (fun y:Int=>(y==(0:Int))) (List.reverseAux (fd B32 (bs.length+1) (a0c B32 bs*2^sh)) ([]:List Int)))) (fd B32 (bs.length+1) (a0c B32 bs*2^sh))=nd B32 (a0c B32 bs*2^sh):=by
    rw[d4a a0e _ _ rfl (b5u (by decide) _ _),nd_fd a0e (Nat.lt_of_lt_of_le hvhi (Nat.pow_le_pow_right (by decide) (by omega)))]
   rw[htr,a2x,a2x];have hdw:a0c B32 (nd B32 (a0c B32 bs*2^sh))=a0c B32 bs*2^sh:=a0i a0e _;have hdv':=a3w a0e (a0c B32 bs*2^sh);have hu0:a0c B32 (fd B32 (as.length+1) (a0c B32 as*2^sh))=a0c B32 as*2^sh:=by rw[b8m,Nat.mod_eq_of_lt hahi]
   have hul:(fd B32 (as.length+1) (a0c B32 as*2^sh)).length=as.length+1:=a2x _ _ _;have hud:dig B32 (fd B32 (as.length+1) (a0c B32 as*2^sh))=true:=b5u (by decide) _ _;generalize nd B32 (a0c B32 bs*2^sh)=vs at*;generalize fd B32 (as.length+1) (a0c B32 as*2^sh)=u0 at*;have ht:a0c B32 (u0.drop (as.length+1 - bs.length))<a0c B32 bs*2^sh:=ld_top (n:=vs.length) a0e hud hu0 hpow (by omega) (by rw[show as.length+1 - bs.length+vs.length - 1=as.length by omega];exact hhia) (by omega) (by rw[hvl];exact hlow);have hmain:=id_outer (m:=as.length+1 - bs.length) (sh:=sh) hud hdv' (by omega) (by omega) (by omega) (by rw[hvl,hdw];exact hvlo) hsh1 (by rw[hdw];exact ht) ((as.length+1)+4294967310) (by omega);have g2:=c2y a0e hdv' (i:=vs.length - 1) (by omega);have g3:=c2y a0e hdv' (i:=vs.length - 2) (by omega);have hv1B:a0c B32 vs/B32^(vs.length - 1)<4294967296:=by
    have:a0c B32 vs/B32^(vs.length - 1)<B32:=by
     rw[Nat.div_lt_iff_lt_mul (Nat.pow_pos (by decide)),Nat.mul_comm,<-Nat.pow_succ,show(vs.length - 1).succ=vs.length by omega];exact a1p hdv'
    exact this
   rw[show a0c B32 vs/B32^(vs.length - 1)%B32=a0c B32 vs/B32^(vs.length - 1)from Nat.mod_eq_of_lt hv1B]at g2;have hv2B:a0c B32 vs/B32^(vs.length - 2)%B32<4294967296:=Nat.mod_lt _ (by decide);generalize a0c B32 vs/B32^(vs.length - 1)=v1 at*;generalize a0c B32 vs/B32^(vs.length - 2)%B32=v2 at*;have e9:(((as.length+1:Nat):Int) - (vs.length:Int))=((as.length+1 - bs.length:Nat):Int):=by omega
   have c3:(bs.length+1)<=1000000000000:=by omega
   have c4:(0:Int)<=(vs.length:Int) - 1:=by omega
   have c5:(vs.length:Int) - 1<(vs.length:Int):=by omega
   have c6:(0:Int)<=(vs.length:Int) - 2:=by omega
   have c7:(vs.length:Int) - 2<(vs.length:Int):=by omega
   have c8:(0:Int)<=((as.length+1 - bs.length:Nat):Int):=by omega
   have c9:((as.length+1 - bs.length:Nat):Int)*4<=281474976710656:=by omega
   rw[e9,wr (x:=((as.length+1 - bs.length:Nat):Int)) (by omega) (by omega),wr (x:=(vs.length:Int) - 1) (by omega) (by omega),wr (x:=(vs.length:Int) - 2) (by omega) (by omega)];simp only[c3,c4,c5,c6,c7,c8,c9,decide_true,if_true,Int.le_refl,Int.toNat_natCast,List.length_replicate,Nat.zero_add];rw[show((vs.length:Int) - 1).toNat=vs.length - 1 by omega,show((vs.length:Int) - 2).toNat=vs.length - 2 by omega,g2,g3,wu (x:=(v1:Int)) (by omega) (by omega),wu (x:=(v2:Int)) (by omega) (by omega),wr (x:=((as.length+1 - bs.length:Nat):Int) - 1) (by omega) (by omega),hmain,hu0,hdw,Nat.mul_div_mul_right _ _ hpow,Nat.mul_mod_mul_right,Nat.mul_div_cancel _ hpow]
abbrev P.a7n (x1:Int×List Int×Int×Unit) (g2:Int×List Int×Int×Unit->Option ((Int×Bool)×Unit)):Option ((Int×Bool)×Unit):=
 if decide (x1.1>=0)then if decide ((x1.2.1.length:Int)<=2)then if decide (0<=x1.1)then if decide (x1.1<(x1.2.1.length:Int))then g2 (wrap .i64 (x1.1 - 1),x1.2.1,wrap .u64 ((wrap .u64 (x1.2.2.1*4294967296))+(wrap .u64 (x1.2.1.getD x1.1.toNat 0))),())else none else none else some ((x1.2.2.1,decide ((x1.2.1.length:Int)<=2)),())else some ((x1.2.2.1,decide ((x1.2.1.length:Int)<=2)),())
def P.b7f (k:Nat) (x:List Int×Unit):Option ((Int×Bool)×Unit):=
 loopP P.a7n k (wrap .i64 ((x.1.length:Int) - 1),x.1,0,())
def S.a5j (x:((List Int)×Unit)):(Option ((Int×Bool)×Unit)):=if dig B32 x.1=true/\x.1.length<=1000000000000 then some ((if x.1.length<=2 then((a0c B32 x.1:Nat):Int)else 0,decide (x.1.length<=2)),())else none
theorem S.d4u (x r) (h:S.a5j x=some r):∃k,P.b7f k x=some r:=by
 obtain⟨xs,u⟩:=x;unfold S.a5j at h;dsimp only at h;split at h
 case isFalse=>cases h
 rename_i hc;obtain⟨hd,hl⟩:=hc;cases h
 by_cases h2:xs.length<=2
 ·refine⟨xs.length+1,?_⟩;unfold P.b7f;dsimp only;rw[if_pos h2,decide_eq_true h2,wr (by omega) (by omega)];have key:=a0f (k:=xs.length+1) (b:=P.a7n) (n:=xs.length) (st:=fun j=>((xs.length:Int) - 1 - (j:Int),xs,((a0c B32 (xs.drop (xs.length - j)):Nat):Int),())) (F:=fun j=>some ((((a0c B32 xs:Nat):Int),true),())) (fun j g hj hg=>by
   unfold P.a7n;dsimp only at hg ⊢;have e1:(xs.length:Int) - 1 - (j:Int)>=0:=by omega
   have e2:(xs.length:Int)<=2:=by omega
   have e3:(0:Int)<=(xs.length:Int) - 1 - (j:Int):=by omega
   have e4:(xs.length:Int) - 1 - (j:Int)<(xs.length:Int):=by omega
   simp only[e1,e2,e4,decide_true,if_true];have hi:xs.length - (j+1)<xs.length:=by omega
   have e5:(xs.length:Int) - 1 - (j:Int)=((xs.length - (j+1):Nat):Int):=by omega
   rw[e5,a0o xs _ _ hi];have e6:xs.drop (xs.length - (j+1))=xs[xs.length - (j+1)]::xs.drop (xs.length - j):=by
    rw[List.drop_eq_getElem_cons hi];congr 2;omega
   have hx:=b6c hd hi;have hv:a0c B32 (xs.drop (xs.length - j))<B32^1:=by
    have hdd:dig B32 (xs.drop (xs.length - j))=true:=by
     have:=List.take_append_drop (xs.length - j) xs;rw[<-this,a1o,Bool.and_eq_true]at hd;exact hd.2
    have:=a1p hdd;have hp:B32^(xs.drop (xs.length - j)).length<=B32^1:=Nat.pow_le_pow_right (by decide) (by simp;omega);omega
   have hv':a0c B32 (xs.drop (xs.length - j))<4294967296:=hv;have hx':xs[xs.length - (j+1)]<4294967296:=hx.2;rw[e6]at hg;rw[<-hg,wr (by omega) (by omega),wu (x:=(a0c B32 (xs.drop (xs.length - j)):Int)*4294967296) (by omega) (by omega),wu (x:=xs[xs.length - (j+1)]) (by omega) (by omega),wu (by omega) (by omega)];congr 1;simp only[Prod.mk.injEq,a0c];refine⟨by omega,trivial,?_,trivial⟩;show _=(((xs[xs.length - (j+1)]).toNat+4294967296*a0c B32 (xs.drop (xs.length - j)):Nat):Int)
   omega) (fun g=>by
   unfold P.a7n;dsimp only;rw[if_neg (by simp;omega),Nat.sub_self,List.drop_zero,decide_eq_true (by omega)]) (by omega)
  have e0:a0c B32 (xs.drop (xs.length - 0))=0:=by rw[Nat.sub_zero,List.drop_length];rfl
  rw[show(xs.length:Int) - 1 - ((0:Nat):Int)=(xs.length:Int) - 1 by omega,e0]at key;exact key
 ·refine⟨1,?_⟩;unfold P.b7f;rw[a0l];unfold P.a7n;dsimp only;rw[wr (by omega) (by omega),if_pos (decide_eq_true (by omega)),if_neg (by simp;omega),if_neg h2,decide_eq_false h2,decide_eq_false (by omega)]
abbrev i_nat_gcd.A:=Option (List Int×Unit)
abbrev P.b9h (x6:Int×Int×Unit) (g7:Int×Int×Unit->i_nat_gcd.A):i_nat_gcd.A:=
 if decide (x6.1>0)then if decide (x6.1=0)then none else g7 (Int.tmod x6.2.1 x6.1,x6.1,())else(S.a2v (x6.2.1,())).bind fun y8=>some (y8.1,())
abbrev P.b5e (k:Nat) (x1:List Int×List Int×Unit) (g2:List Int×List Int×Unit->i_nat_gcd.A):i_nat_gcd.A:=
 if decide ((x1.1.length:Int)>0)then(S.a5j (x1.2.1,())).bind fun y3=>(S.a5j (x1.1,())).bind fun y4=>if y3.1.2 then if y4.1.2 then loopP P.b9h k (y4.1.1,y3.1.1,())else(S.a4v (x1.2.1,x1.1,())).bind fun y9=>g2 (y9.1.2,x1.1,())else(S.a4v (x1.2.1,x1.1,())).bind fun y10=>g2 (y10.1.2,x1.1,())else some (x1.2.1,())
def P.d0j (k:Nat) (x:List Int×List Int×Unit):i_nat_gcd.A:=
 loopP (P.b5e k) k (x.2.1,x.1,())
theorem e3b {B:Nat} (hB:2<=B) {xs:List Int} (h:a2o B xs=true) (hn:xs≠ []):a0c B xs≠0:=by
 intro q;have:=a1h h;rw[q,a1v hB]at this;exact hn this.symm
theorem ig_shorter {B:Nat} (hB:2<=B) {m n:Nat} (h:m<=n):(nd B m).length<=(nd B n).length:=by
 rw[a4j hB];exact Nat.lt_of_le_of_lt h ((a4j hB n _).1 (Nat.le_refl _))
theorem ig_small (n:Nat):∀(x y:Nat) (k:Nat),y<=n->n<k->x<18446744073709551616->y<18446744073709551616->loopP P.b9h k ((y:Int),((x:Int),()))=some (nd B32 (Nat.gcd x y),()):=by
 induction n using Nat.strongRecOn with
 |ind n ih=>
  intro x y k hn hk hx hy;obtain⟨k,rfl⟩:∃j,k=j+1:=⟨k - 1,by omega⟩
  rw[a0l];unfold P.b9h;dsimp only
  by_cases hb:y=0
  ·subst hb;rw[if_neg (by simp),Nat.gcd_zero_right];unfold S.a2v;dsimp only;rw[if_pos ⟨by omega,by omega⟩,Option.bind_some,Int.toNat_natCast]
  ·have hm:=Nat.mod_lt x (show 0<y by omega);have c1:(y:Int)>0:=by omega
   have c2:¬((y:Int)=0):=by omega
   rw[if_pos (decide_eq_true c1),if_neg (by simpa using hb),Int.tmod_eq_emod_of_nonneg (by omega),<-Int.natCast_emod,ih (x%y) (by omega) y (x%y) k (Nat.le_refl _) (by omega) hy (by omega),e2e]
theorem ig_loop (K n:Nat):∀(as bs:List Int) (k:Nat),a2o B32 as=true->a2o B32 bs=true->as.length<=100000000->bs.length<=100000000->a0c B32 bs<=n->n<k->n<K->loopP (P.b5e K) k (bs,(as,()))=some (nd B32 (Nat.gcd (a0c B32 as) (a0c B32 bs)),()):=by
 induction n using Nat.strongRecOn with
 |ind n ih=>
  intro as bs k ca cb la lb hn hk hK;obtain⟨k,rfl⟩:∃j,k=j+1:=⟨k - 1,by omega⟩
  rw[a0l];unfold P.b5e;dsimp only
  by_cases hb:bs=[]
  ·subst hb;rw[if_neg (by simp),show a0c B32 []=0 from rfl,Nat.gcd_zero_right,a1h ca]
  ·have hpos:0<bs.length:=List.length_pos_iff.2 hb;have hb0:=e3b a0e cb hb;have hm:=Nat.mod_lt (a0c B32 as) (show 0<a0c B32 bs by omega);have hc:(bs.length:Int)>0:=by omega
   rw[if_pos (decide_eq_true hc)];have sa:S.a5j (as,())=some ((if as.length<=2 then((a0c B32 as:Nat):Int)else 0,decide (as.length<=2)),()):=by
    unfold S.a5j;exact if_pos ⟨a1s ca,by dsimp only;omega⟩
   have sb:S.a5j (bs,())=some ((if bs.length<=2 then((a0c B32 bs:Nat):Int)else 0,decide (bs.length<=2)),()):=by
    unfold S.a5j;exact if_pos ⟨a1s cb,by dsimp only;omega⟩
   rw[sa,Option.bind_some,sb,Option.bind_some];dsimp only;have hsmall:∀xs:List Int,dig B32 xs=true->xs.length<=2->a0c B32 xs<18446744073709551616:=by
    intro xs hd hl;have h1:=a1p hd;have h2:B32^xs.length<=B32^2:=Nat.pow_le_pow_right (by decide) hl;have h3:B32^2=18446744073709551616:=rfl;omega
   have hbig:Option.bind (S.a4v (as,(bs,()))) (fun(y9:(((List Int)×(List Int))×Unit))=>(loopP (P.b5e K) k (y9.1.2,(bs,()))))=some (nd B32 (Nat.gcd (a0c B32 as) (a0c B32 bs)),()):=by
    unfold S.a4v;dsimp only;rw[if_pos ⟨ca,cb,hb,la,lb⟩,Option.bind_some];dsimp only;have hl:(nd B32 (a0c B32 as%a0c B32 bs)).length<=bs.length:=by
     have:=ig_shorter a0e (Nat.le_of_lt hm);rwa [a1h cb]at this
    have hd:a0c B32 (nd B32 (a0c B32 as%a0c B32 bs))=a0c B32 as%a0c B32 bs:=a0i a0e _;rw[ih (a0c B32 as%a0c B32 bs) (by omega) bs _ k cb (a0m a0e _) lb (by omega) (by rw[hd];exact Nat.le_refl _) (by omega) (by omega),hd,e2e]
   by_cases c1:as.length<=2
   ·by_cases c2:bs.length<=2
    ·have s1:=hsmall as (a1s ca) c1;have s2:=hsmall bs (a1s cb) c2;simp only[c1,c2,decide_true,if_true];exact ig_small n _ _ K hn hK s1 s2
    ·rw[if_pos (decide_eq_true c1),if_neg (by simpa using c2)];exact hbig
   ·rw[if_neg (by simpa using c1)];exact hbig
def S.a5s (x:((List Int)×((List Int)×Unit))):(Option ((List Int)×Unit)):=if a2o B32 x.1=true/\a2o B32 x.2.1=true/\x.1.length<=100000000/\x.2.1.length<=100000000 then some (nd B32 (Nat.gcd (a0c B32 x.1) (a0c B32 x.2.1)),())else none
theorem S.e3c (x r) (h:S.a5s x=some r):∃k,P.d0j k x=some r:=by
 obtain⟨as,bs,u⟩:=x;unfold S.a5s at h;dsimp only at h;split at h
 case isFalse=>cases h
 rename_i hc;obtain⟨ca,cb,la,lb⟩:=hc;cases h;refine⟨a0c B32 bs+1,?_⟩;unfold P.d0j;exact ig_loop _ (a0c B32 bs) as bs _ ca cb la lb (Nat.le_refl _) (by omega) (by omega)
def P.d8i (k:Nat) (x:Bool×List Int×List Int×Unit):Option (RB×Unit):=
 if(x.2.1.length:Int)==0 then(S.a2v (1,())).bind fun y0=>some ((false,[],y0.1),())else(S.a5s (x.2.1,x.2.2.1,())).bind fun y1=>if(y1.1.length:Int)==1 then if decide (0<(y1.1.length:Int))then if(y1.1.getD 0 0)==1 then some ((x.1,x.2.1,x.2.2.1),())else(S.a4v (x.2.1,y1.1,())).bind fun y2=>(S.a4v (x.2.2.1,y1.1,())).bind fun y3=>some ((x.1,y2.1.1,y3.1.1),())else none else(S.a4v (x.2.1,y1.1,())).bind fun y4=>(S.a4v (x.2.2.1,y1.1,())).bind fun y5=>some ((x.1,y4.1.1,y5.1.1),())
def S.a5k (x:(Bool×((List Int)×((List Int)×Unit)))):(Option (RB×Unit)):=if a2o B32 x.2.1=true/\a2o B32 x.2.2.1=true/\x.2.2.1≠ []/\x.2.1.length<=100000000/\x.2.2.1.length<=100000000 then some (rp B32 (c1e x.1 (a0c B32 x.2.1) (a0c B32 x.2.2.1)),())else none
theorem S.i_lowest_ok (x r) (h:S.a5k x=some r):∃k,P.d8i k x=some r:=by
 obtain⟨neg,as,bs',u⟩:=x;unfold S.a5k at h;dsimp only at h;split at h
 case isFalse=>cases h
 rename_i hc;obtain⟨ca,cb,hne,la,lb⟩:=hc;cases h;refine⟨0,?_⟩;unfold P.d8i;dsimp only;have hb0:a0c B32 bs'≠0:=fun e=>hne ((b0h a0e cb).2 e)
 by_cases ha:as=[]
 ·subst ha;rw[if_pos (by rfl)];unfold S.a2v c1e rp;dsimp only;rw[if_pos ⟨by decide,by decide⟩,Option.bind_some,show a0c B32 []=0 from rfl,Nat.gcd_zero_left,Nat.zero_div,Nat.div_self (by omega),a1v a0e];simp
 ·have ha0:a0c B32 as≠0:=fun e=>ha ((b0h a0e ca).2 e)
  rw[if_neg (by simpa using ha)];have hg:=gcd_len a0e ca cb hb0;have hgp:0<Nat.gcd (a0c B32 as) (a0c B32 bs'):=Nat.gcd_pos_of_pos_right _ (by omega);have e1:S.a5s (as,(bs',()))=some (nd B32 (Nat.gcd (a0c B32 as) (a0c B32 bs')),()):=by
   unfold S.a5s;exact if_pos ⟨ca,cb,la,lb⟩
  rw[e1,Option.bind_some];dsimp only;unfold c1e rp;dsimp only;rw[decide_eq_true ha0,Bool.and_true];have hgne:nd B32 (Nat.gcd (a0c B32 as) (a0c B32 bs'))≠ []:=by
   rw[b4y a0e (by omega)];simp
  have hgd:a0c B32 (nd B32 (Nat.gcd (a0c B32 as) (a0c B32 bs')))=Nat.gcd (a0c B32 as) (a0c B32 bs'):=a0i a0e _;have hgc:a2o B32 (nd B32 (Nat.gcd (a0c B32 as) (a0c B32 bs')))=true:=a0m a0e _;have e2:∀xs,a2o B32 xs=true->xs.length<=100000000->S.a4v (xs,(nd B32 (Nat.gcd (a0c B32 as) (a0c B32 bs')),()))=some ((nd B32 (a0c B32 xs/Nat.gcd (a0c B32 as) (a0c B32 bs')),nd B32 (a0c B32 xs%Nat.gcd (a0c B32 as) (a0c B32 bs'))),()):=by
   intro xs cx lx;unfold S.a4v;dsimp only;rw[if_pos ⟨cx,hgc,hgne,lx,by omega⟩,hgd]
  rw[e2 as ca la,Option.bind_some,e2 bs' cb lb,Option.bind_some];dsimp only;have hone:nd B32 (Nat.gcd (a0c B32 as) (a0c B32 bs'))=[1]->as=nd B32 (a0c B32 as/Nat.gcd (a0c B32 as) (a0c B32 bs'))/\bs'=nd B32 (a0c B32 bs'/Nat.gcd (a0c B32 as) (a0c B32 bs')):=by
   intro e;rw[e,b8p]at hgd;rw[<-hgd,Nat.div_one,Nat.div_one,a1h ca,a1h cb];exact⟨rfl,rfl⟩
  generalize hgl:nd B32 (Nat.gcd (a0c B32 as) (a0c B32 bs'))=gl at*
  by_cases h1:gl.length=1
  ·have d1:(((gl.length:Nat):Int)==(1:Int))=true:=by simp [h1]
   have d2:(0:Int)<(gl.length:Int):=by omega
   rw[if_pos d1,if_pos (decide_eq_true d2)];obtain⟨g0,rfl⟩:∃g0,gl=[g0]:=by
    match gl,h1 with
    | [g0],_=>exact⟨g0,rfl⟩
   by_cases h2:g0=1
   ·subst h2;rw[if_pos (by rfl),<-(hone rfl).1,<-(hone rfl).2]
   ·rw[if_neg (by simpa using h2)]
  ·have d1:¬(((gl.length:Nat):Int)==(1:Int))=true:=by simp;omega
   rw[if_neg d1]
def P.d0k (k:Nat) (x:RB×RB×Unit):Option (RB×Unit):=
 (S.a0y ((x.1.1,x.1.2.1,x.1.2.2),())).bind fun y0=>if y0.1==0 then some ((x.2.1.1,x.2.1.2.1,x.2.1.2.2),())else(S.a0y ((x.2.1.1,x.2.1.2.1,x.2.1.2.2),())).bind fun y1=>if y1.1==0 then some ((x.1.1,x.1.2.1,x.1.2.2),())else(S.a1m (x.1.2.2,x.2.1.2.2,())).bind fun y2=>if y2.1 != 0 then(S.a2n (x.1.2.1,x.2.1.2.2,())).bind fun y3=>(S.a2n (x.2.1.2.1,x.1.2.2,())).bind fun y4=>(S.a2n (x.1.2.2,x.2.1.2.2,())).bind fun y5=>if x.1.1==x.2.1.1 then(S.a9r (y3.1,y4.1,())).bind fun y6=>(S.a5k (x.1.1,y6.1,y5.1,())).bind fun y7=>some ((y7.1.1,y7.1.2.1,y7.1.2.2),())else(S.a1m (y3.1,y4.1,())).bind fun y8=>if decide (y8.1>=0)then(S.a9q (y3.1,y4.1,())).bind fun y9=>(S.a5k (x.1.1,y9.1,y5.1,())).bind fun y10=>some ((y10.1.1,y10.1.2.1,y10.1.2.2),())else(S.a9q (y4.1,y3.1,())).bind fun y11=>(S.a5k (x.2.1.1,y11.1,y5.1,())).bind fun y12=>some ((y12.1.1,y12.1.2.1,y12.1.2.2),())else if x.1.1==x.2.1.1 then(S.a9r (x.1.2.1,x.2.1.2.1,())).bind fun y13=>(S.a5k (x.1.1,y13.1,x.1.2.2,())).bind fun y14=>some ((y14.1.1,y14.1.2.1,y14.1.2.2),())else(S.a1m (x.1.2.1,x.2.1.2.1,())).bind fun y15=>if decide (y15.1>=0)then(S.a9q (x.1.2.1,x.2.1.2.1,())).bind fun y16=>(S.a5k (x.1.1,y16.1,x.1.2.2,())).bind fun y17=>some ((y17.1.1,y17.1.2.1,y17.1.2.2),())else(S.a9q (x.2.1.2.1,x.1.2.1,())).bind fun y18=>(S.a5k (x.2.1.1,y18.1,x.1.2.2,())).bind fun y19=>some ((y19.1.1,y19.1.2.1,y19.1.2.2),())
theorem ra_mul (p q:Nat) (hp:(nd B32 p).length<=100000000) (hq:(nd B32 q).length<=100000000):S.a2n (nd B32 p,(nd B32 q,()))=some (nd B32 (p*q),()):=by
 unfold S.a2n;dsimp only;rw[if_pos ⟨a3w a0e _,a3w a0e _,by omega,by omega⟩,a0i a0e,a0i a0e]
theorem ra_add (p q:Nat) (hp:(nd B32 p).length<=100000000) (hq:(nd B32 q).length<=100000000):S.a9r (nd B32 p,(nd B32 q,()))=some (nd B32 (p+q),()):=by
 unfold S.a9r;dsimp only;rw[if_pos ⟨a3w a0e _,a3w a0e _,by omega,by omega⟩,a0i a0e,a0i a0e]
theorem ra_sub (p q:Nat) (hp:(nd B32 p).length<=100000000) (h:q<=p):S.a9q (nd B32 p,(nd B32 q,()))=some (nd B32 (p - q),()):=by
 unfold S.a9q;dsimp only;rw[a0i a0e,a0i a0e,if_pos ⟨a3w a0e _,a3w a0e _,a6w a0e h,h,by omega⟩]
theorem ra_cmp (p q:Nat) (hp:(nd B32 p).length<=100000000):S.a1m (nd B32 p,(nd B32 q,()))=some (b1i p q,()):=by
 unfold S.a1m;dsimp only;rw[if_pos ⟨a0m a0e _,a0m a0e _,by omega⟩,a0i a0e,a0i a0e]
theorem d7c (n:Bool) (p q:Nat) (hp:(nd B32 p).length<=100000000) (hq:(nd B32 q).length<=100000000) (h0:q≠0):S.a5k (n,(nd B32 p,(nd B32 q,())))=some (rp B32 (c1e n p q),()):=by
 unfold S.a5k;dsimp only;rw[if_pos ⟨a0m a0e _,a0m a0e _,nd_ne a0e h0,by omega,by omega⟩,a0i a0e,a0i a0e]
theorem ra_sign (n:Bool) (p:Nat) (bs:List Int):S.a0y ((n,(nd B32 p,bs)),())=some (e2x n p,()):=by
 unfold S.a0y;dsimp only;rw[if_pos (a0m a0e _),a0i a0e]
def S.a1l (x:(RB×(RB×Unit))):(Option (RB×Unit)):=if c3b B32 40000000 x.1=true/\c3b B32 40000000 x.2.1=true then some (rp B32 (b4b (rv B32 x.1) (rv B32 x.2.1)),())else none
theorem S.e3d (x r) (h:S.a1l x=some r):∃k,P.d0k k x=some r:=by
 obtain⟨x,y,u⟩:=x;unfold S.a1l at h;dsimp only at h;split at h
 case isFalse=>cases h
 rename_i hc;obtain⟨hx,hy⟩:=hc;cases h;rw[a6h]at hx hy;obtain⟨hx,lx⟩:=hx;obtain⟨hy,ly⟩:=hy;obtain⟨n1,p1,q1,rfl,x1,x2⟩:=b0t hx;obtain⟨n2,p2,q2,rfl,y1,y2⟩:=b0t hy;rw[b9b a0e]at lx ly ⊢;rw[b9b a0e];have hq1:q1≠0:=by have:0<q1:=lx.1;omega
 have hq2:q2≠0:=by have:0<q2:=ly.1;omega
 refine⟨0,?_⟩;unfold P.d0k;dsimp only;rw[ra_sign,Option.bind_some];dsimp only
 by_cases h1:p1=0
 ·rw[if_pos (by simpa using a5w.2 h1),d6x _ _ lx ly h1];rfl
 ·rw[if_neg (by simpa using fun q=>h1 (a5w.1 q)),ra_sign,Option.bind_some];dsimp only
  by_cases h2:p2=0
  ·rw[if_pos (by simpa using a5w.2 h2),d4e _ _ lx ly h2];rfl
  ·rw[if_neg (by simpa using fun q=>h2 (a5w.1 q)),ra_cmp q1 q2 (by omega),Option.bind_some];dsimp only;have m1:=a5b a0e p1 q2;have m2:=a5b a0e p2 q1;have m3:=a5b a0e q1 q2
   by_cases hq:q1=q2
   ·rw[if_neg (by simpa using a5a.2 hq),addQ_same _ _ lx hq];dsimp only;have a1:=c7r a0e p1 p2;have a2:=b4c a0e p1 p2;have a3:=b4c a0e p2 p1
    by_cases hn:n1=n2
    ·rw[if_pos (by simpa using hn),if_pos hn,ra_add p1 p2 (by omega) (by omega),Option.bind_some,d7c n1 _ q1 (by omega) (by omega) hq1,Option.bind_some]
    ·rw[if_neg (by simpa using hn),if_neg hn,ra_cmp p1 p2 (by omega),Option.bind_some];dsimp only;have hlt:=c2z (a:=p1) (b:=p2)
     by_cases hle:p2<=p1
     ·have hge:b1i p1 p2>=0:=by omega
      rw[if_pos (decide_eq_true hge),if_pos hle,ra_sub p1 p2 (by omega) hle,Option.bind_some,d7c n1 _ q1 (by omega) (by omega) hq1,Option.bind_some]
     ·have hge:¬b1i p1 p2>=0:=by omega
      rw[if_neg (by simpa using hge),if_neg hle,ra_sub p2 p1 (by omega) (by omega),Option.bind_some,d7c n2 _ q1 (by omega) (by omega) hq1,Option.bind_some]
   ·have hq0:q1*q2≠0:=Nat.mul_ne_zero hq1 hq2;rw[if_pos (by simpa using fun q=>hq (a5a.1 q)),ra_mul p1 q2 (by omega) (by omega),Option.bind_some,ra_mul p2 q1 (by omega) (by omega),Option.bind_some,ra_mul q1 q2 (by omega) (by omega),Option.bind_some];dsimp only;unfold b4b;dsimp only;have a1:=c7r a0e (p1*q2) (p2*q1);have a2:=b4c a0e (p1*q2) (p2*q1);have a3:=b4c a0e (p2*q1) (p1*q2)
    by_cases hn:n1=n2
    ·rw[if_pos (by simpa using hn),if_pos hn,ra_add _ _ (by omega) (by omega),Option.bind_some,d7c n1 _ _ (by omega) (by omega) hq0,Option.bind_some]
    ·rw[if_neg (by simpa using hn),if_neg hn,ra_cmp _ _ (by omega),Option.bind_some];dsimp only;have hlt:=c2z (a:=p1*q2) (b:=p2*q1)
     by_cases hle:p2*q1<=p1*q2
     ·have hge:b1i (p1*q2) (p2*q1)>=0:=by
       rcases Int.lt_or_le (b1i (p1*q2) (p2*q1)) 0 with g|g
       ·have:=hlt.1 g;omega
       ·exact g
      rw[if_pos (decide_eq_true hge),if_pos hle,ra_sub _ _ (by omega) hle,Option.bind_some,d7c n1 _ _ (by omega) (by omega) hq0,Option.bind_some]
     ·have hge:¬b1i (p1*q2) (p2*q1)>=0:=by
       have:=hlt.2 (Nat.lt_of_not_le hle);omega
      rw[if_neg (by simpa using hge),if_neg hle,ra_sub _ _ (by omega) (Nat.le_of_lt (Nat.lt_of_not_le hle)),Option.bind_some,d7c n2 _ _ (by omega) (by omega) hq0,Option.bind_some]
abbrev i_lessOne.A:=Int×Int×List Int×List (List RB)×Int×Bool×List RB×List (List RB×Nat)×Int×Int×List Int×List Int×Unit
abbrev i_lessOne.B:=Int×Int×List Int×List Int×List (List RB)×Bool×List (List RB×Nat)×Unit
abbrev i_lessOne.C:=Option ((List (List RB×Nat)×Nat)×Unit)
abbrev P.b2d (g2:i_lessOne.B->i_lessOne.C) (x5:i_lessOne.A) (g6:i_lessOne.A->i_lessOne.C):i_lessOne.C:=
 (fun(a b e j l:Int) (c m n:List Int) (d:List (List RB)) (f:Bool) (h:List RB) (i:List (List RB×Nat))=>if decide (a<b)then if decide (0<=a)then if decide (a<(c.length:Int))then if decide (0<=e)then if decide (e<(d.length:Int))then if decide (0<=(c.getD a.toNat 0))then if decide ((c.getD a.toNat 0)<(List.length (d.getD e.toNat []):Int))then if f then if decide (0<=(c.getD a.toNat 0))then if decide ((c.getD a.toNat 0)<(d.length:Int))then if decide (0<=e)then if decide (e<(List.length (d.getD (Int.toNat (c.getD a.toNat 0)) []):Int))then(S.a3r (((List.getD (d.getD (Int.toNat (c.getD a.toNat 0)) []) e.toNat (false,[],[])).1,(List.getD (d.getD (Int.toNat (c.getD a.toNat 0)) []) e.toNat (false,[],[])).2.1,(List.getD (d.getD (Int.toNat (c.getD a.toNat 0)) []) e.toNat (false,[],[])).2.2),())).bind fun y7=>if e==(c.getD a.toNat 0)then(S.a2l (1,())).bind fun y8=>(S.a1l ((y7.1.1,y7.1.2.1,y7.1.2.2),(y8.1.1,y8.1.2.1,y8.1.2.2),())).bind fun y9=>if decide (((h.length+(List.length [(y9.1.1,y9.1.2.1,y9.1.2.2)]))*56)<=140737488355328)then if dup (List.map (fun(y10:Nat×Nat)=>y10.1) (hd0 i))then none else g6 (wrap .i64 (a+1),b,c,d,e,f,h++[(y9.1.1,y9.1.2.1,y9.1.2.2)],nrm (hd0 i) (in0 i),j,l,m,n,())else none else if decide (((h.length+(List.length [(y7.1.1,y7.1.2.1,y7.1.2.2)]))*56)<=140737488355328)then if dup (List.map (fun(y11:Nat×Nat)=>y11.1) (hd0 i))then none else g6 (wrap .i64 (a+1),b,c,d,e,f,h++[(y7.1.1,y7.1.2.1,y7.1.2.2)],nrm (hd0 i) (in0 i),j,l,m,n,())else none else none else none else none else none else(S.a3r (((List.getD (d.getD e.toNat []) (Int.toNat (c.getD a.toNat 0)) (false,[],[])).1,(List.getD (d.getD e.toNat []) (Int.toNat (c.getD a.toNat 0)) (false,[],[])).2.1,(List.getD (d.getD e.toNat []) (Int.toNat (c.getD a.toNat 0)) (false,[],[])).2.2),())).bind fun y12=>if e==(c.getD a.toNat 0)then(S.a2l (1,())).bind fun y13=>(S.a1l ((y12.1.1,y12.1.2.1,y12.1.2.2),(y13.1.1,y13.1.2.1,y13.1.2.2),())).bind fun y14=>if decide (((h.length+(List.length [(y14.1.1,y14.1.2.1,y14.1.2.2)]))*56)<=140737488355328)then if dup (List.map (fun(y15:Nat×Nat)=>y15.1) (hd0 i))then none else g6 (wrap .i64 (a+1),b,c,d,e,f,h++[(y14.1.1,y14.1.2.1,y14.1.2.2)],nrm (hd0 i) (in0 i),j,l,m,n,())else none else if decide (((h.length+(List.length [(y12.1.1,y12.1.2.1,y12.1.2.2)]))*56)<=140737488355328)then if dup (List.map (fun(y16:Nat×Nat)=>y16.1) (hd0 i))then none else g6 (wrap .i64 (a+1),b,c,d,e,f,h++[(y12.1.1,y12.1.2.1,y12.1.2.2)],nrm (hd0 i) (in0 i),j,l,m,n,())else none else none else none else none else none else none else none else if decide ((((List.length (hd0 i))+(List.length (hd0 [(h,h.length)])))*24)<=140737488355328)then if dup (List.map (fun(y17:Nat×Nat)=>y17.1) (b2t (List.length (in0 i)) (hd0 i) (hd0 [(h,h.length)])))then none else g2 (wrap .i64 (j+1),l,m,n,d,f,nrm (b2t (List.length (in0 i)) (hd0 i) (hd0 [(h,h.length)])) ((in0 i)++[h]),())else none) x5.1 x5.2.1 x5.2.2.2.2.1 x5.2.2.2.2.2.2.2.2.1 x5.2.2.2.2.2.2.2.2.2.1 x5.2.2.1 x5.2.2.2.2.2.2.2.2.2.2.1 x5.2.2.2.2.2.2.2.2.2.2.2.1 x5.2.2.2.1 x5.2.2.2.2.2.1 x5.2.2.2.2.2.2.1 x5.2.2.2.2.2.2.2.1
abbrev P.b5f (k:Nat) (x1:i_lessOne.B) (g2:i_lessOne.B->i_lessOne.C):i_lessOne.C:=
 if decide (x1.1<x1.2.1)then if decide (0<=x1.1)then if decide (x1.1<(x1.2.2.1.length:Int))then if dup (List.map (fun(y3:Nat×Nat)=>y3.1) (hd0 x1.2.2.2.2.2.2.1))then none else loopP (P.b2d g2) k (0,(x1.2.2.2.1.length:Int),x1.2.2.2.1,x1.2.2.2.2.1,x1.2.2.1.getD x1.1.toNat 0,x1.2.2.2.2.2.1,[],nrm (hd0 x1.2.2.2.2.2.2.1) (in0 x1.2.2.2.2.2.2.1),x1.1,x1.2.1,x1.2.2.1,x1.2.2.2.1,())else none else none else if dup (List.map (fun(y18:Nat×Nat)=>y18.1) (hd0 x1.2.2.2.2.2.2.1))then none else some ((nrm (hd0 x1.2.2.2.2.2.2.1) (in0 x1.2.2.2.2.2.2.1),List.length (hd0 x1.2.2.2.2.2.2.1)),())
def P.d0l (k:Nat) (x:List (List RB)×List Int×Bool×Unit):i_lessOne.C:=
 loopP (P.b5f k) k (0,(x.2.1.length:Int),x.2.1,x.2.1,x.1,x.2.2.1,nrm (hd0 ([]:List (List RB×Nat))) (in0 ([]:List (List RB×Nat))),())
theorem ilo_row {M:List (List Q3)} (h:b2a M) {tu:Bool} {c:Nat->Bool} {g0:Nat->Q3} {a:Nat} (ha:a<(fl c M.length).length) (g) {K:Nat} (hK:12<K):
  loopP (P.b2d g) K ((0:Int),((fl c M.length).length:Int),zs (fl c M.length),mp B32 M,(((fl c M.length).getD a 0:Nat):Int),tu,([]:List (Bool×(List Int×List Int))),om B32 a (fl c M.length).length (hA M tu c g0),(a:Int),((fl c M.length).length:Int),zs (fl c M.length),zs (fl c M.length),())=g (((a+1:Nat):Int),((fl c M.length).length:Int),zs (fl c M.length),zs (fl c M.length),mp B32 M,tu,om B32 (a+1) (fl c M.length).length (hA M tu c g0),()):=by
 have hI:=h.2.1;have hn:=hI.1;have hm:=b8c c M.length;obtain⟨f1,f2⟩:=b9c ha;have key:=a0f (k:=K) (b:=P.b2d g) (n:=(fl c M.length).length) (st:=fun b=>((b:Int),((fl c M.length).length:Int),zs (fl c M.length),mp B32 M,(((fl c M.length).getD a 0:Nat):Int),tu,(tab b (hA M tu c g0 a)).map (rp B32),om B32 a (fl c M.length).length (hA M tu c g0),(a:Int),((fl c M.length).length:Int),zs (fl c M.length),zs (fl c M.length),())) (F:=fun _=>g (((a+1:Nat):Int),((fl c M.length).length:Int),zs (fl c M.length),zs (fl c M.length),mp B32 M,tu,om B32 (a+1) (fl c M.length).length (hA M tu c g0),())) (fun b g' hb hg=>by
  unfold P.b2d;dsimp only at hg ⊢;obtain⟨q1,q2⟩:=b9c hb;have e1:(b:Int)<((fl c M.length).length:Int):=by omega
  have e2:(0:Int)<=(b:Int):=by omega
  have e3:(0:Int)<=(((fl c M.length).getD a 0:Nat):Int):=by omega
  have e4:(((fl c M.length).getD a 0:Nat):Int)<(M.length:Int):=by omega
  have e5:(0:Int)<=(((fl c M.length).getD b 0:Nat):Int):=by omega
  have e6:(((fl c M.length).getD b 0:Nat):Int)<(M.length:Int):=by omega
  have e7:(b+1)*56<=140737488355328:=by omega
  have c1:((mp B32 M).getD ((fl c M.length).getD a 0) []).getD ((fl c M.length).getD b 0) (false,(([]:List Int),([]:List Int)))=rp B32 (c1t M c a b):=d2m hI f1 q1;have c2:((mp B32 M).getD ((fl c M.length).getD b 0) []).getD ((fl c M.length).getD a 0) (false,(([]:List Int),([]:List Int)))=rp B32 (c1t M c b a):=d2m hI q1 f1;obtain⟨l1,l2⟩:=leN_ok h (tu:=tu) ha hb;have em:S.a3r (((rp B32 (leN M tu c a b)).1,(rp B32 (leN M tu c a b)).2.1,(rp B32 (leN M tu c a b)).2.2),())=some (rp B32 (b6d (leN M tu c a b)),()):=by
   show S.a3r (rp B32 _,())=_;unfold S.a3r;dsimp only;rw[if_pos (b1n (by decide) l1.2 (by decide)),a3q a0e]
  have h1:S.a2l (1,())=some (rp B32 a6j,()):=by rfl
  have ea:S.a1l (((rp B32 (b6d (leN M tu c a b))).1,(rp B32 (b6d (leN M tu c a b))).2.1,(rp B32 (b6d (leN M tu c a b))).2.2),((rp B32 a6j).1,(rp B32 a6j).2.1,(rp B32 a6j).2.2),())=some (rp B32 (b4b (b6d (leN M tu c a b)) a6j),()):=by
   show S.a1l (rp B32 _,rp B32 _,())=_;unfold S.a1l;dsimp only;rw[if_pos ⟨b8e (by decide) l2,b8e (by decide) e0k⟩,a3q a0e,a3q a0e]
  rw[<-a7y,hA_at M tu c g0 hb]at hg;simp only[a5x,b6e,Int.toNat_natCast,a2y,d2n hI f1,d2n hI q1,List.length_map,a0s,List.length_cons,List.length_nil,Nat.zero_add,a1d,a1t,e1,e2,e3,e4,e5,e6,e7,c1,c2,decide_true,if_true,Bool.false_eq_true,if_false];rw[wr (by omega) (by omega)];have hsel:∀ {tu:Bool},leN M tu c a b=if tu=true then c1t M c b a else c1t M c a b:=rfl
  have hfe:=fl_eq ha hb;cases tu
  ·rw[show leN M false c a b=c1t M c a b from rfl]at*;rw[if_neg (by decide),em,Option.bind_some];dsimp only
   by_cases hab:a=b
   ·rw[if_pos hab]at hg;rw[if_pos (by rw[beq_iff_eq,Int.natCast_inj];exact hfe.2 hab),h1,Option.bind_some];dsimp only;rw[ea,Option.bind_some];exact hg
   ·rw[if_neg hab]at hg;rw[if_neg (by rw[beq_iff_eq,Int.natCast_inj];exact fun z=>hab (hfe.1 z))];exact hg
  ·rw[show leN M true c a b=c1t M c b a from rfl]at*;rw[if_pos rfl,em,Option.bind_some];dsimp only
   by_cases hab:a=b
   ·rw[if_pos hab]at hg;rw[if_pos (by rw[beq_iff_eq,Int.natCast_inj];exact hfe.2 hab),h1,Option.bind_some];dsimp only;rw[ea,Option.bind_some];exact hg
   ·rw[if_neg hab]at hg;rw[if_neg (by rw[beq_iff_eq,Int.natCast_inj];exact fun z=>hab (hfe.1 z))];exact hg) (fun g'=>by
  unfold P.b2d;dsimp only;have e1:(a+1)*24<=140737488355328:=by omega
  have e2:= @om_app B32 a (fl c M.length).length (hA M tu c g0);rw[if_neg (by simp),wr (by omega) (by omega)];simp only[a0t,a4h,List.length_map,a0s,List.length_cons,List.length_nil,Nat.zero_add,e1,e2.1,e2.2,decide_true,if_true,Bool.false_eq_true,if_false];rfl) (by omega)
 exact key
open Classical in
def S.a9j (x:((List (List RB))×((List Int)×(Bool×Unit)))):(Option (((List ((List RB)×Nat))×Nat)×Unit)):=if ∃M,b2a M/\x.1=mp B32 M/\x.2.1=zs (fl (cZ x.2.1) M.length)then some ((om B32 x.2.1.length x.2.1.length (hA (mv B32 x.1) x.2.2.1 (cZ x.2.1) fun _=>a0q),x.2.1.length),())else none
theorem S.e3e (x r) (h:S.a9j x=some r):∃k,P.d0l k x=some r:=by
 obtain⟨m,L,tu,u⟩:=x;unfold S.a9j at h;dsimp only at h;split at h
 case isFalse=>cases h
 rename_i hc;obtain⟨M,hM,rfl,hL⟩:=hc;rw[b8s (by decide)]at h;generalize cZ L=c at*;subst hL;rw[a5x]at h;cases h;have hn:=hM.2.1.1;have hm:=b8c c M.length;refine⟨13,?_⟩;unfold P.d0l;dsimp only;have key:=a0f (k:=13) (b:=P.b5f 13) (n:=(fl c M.length).length) (st:=fun a=>((a:Int),((fl c M.length).length:Int),zs (fl c M.length),zs (fl c M.length),mp B32 M,tu,om B32 a (fl c M.length).length (hA M tu c fun _=>a0q),())) (F:=fun _=>some ((om B32 (fl c M.length).length (fl c M.length).length (hA M tu c fun _=>a0q),(fl c M.length).length),())) (fun a g ha hg=>by
  unfold P.b5f;dsimp only at hg ⊢;have e1:(a:Int)<((fl c M.length).length:Int):=by omega
  have e2:(0:Int)<=(a:Int):=by omega
  simp only[a5x,b6e,Int.toNat_natCast,a1d,a1t,e1,e2,decide_true,if_true,Bool.false_eq_true,if_false];rw[ilo_row hM ha g (by decide)];exact hg) (fun g=>by
  unfold P.b5f;dsimp only;rw[if_neg (by simp),a1d,a1t,a0t,a4h,if_neg (by decide)]) (by omega)
 rw[a5x];exact key
def P.e3f (k:Nat) (x:RB×RB×Unit):Option (RB×Unit):=
 (S.a3r ((x.2.1.1,x.2.1.2.1,x.2.1.2.2),())).bind fun y0=>(S.a1l ((x.1.1,x.1.2.1,x.1.2.2),(y0.1.1,y0.1.2.1,y0.1.2.2),())).bind fun y1=>some ((y1.1.1,y1.1.2.1,y1.1.2.2),())
def S.a9k (x:(RB×(RB×Unit))):(Option (RB×Unit)):=if c3b B32 40000000 x.1=true/\c3b B32 40000000 x.2.1=true then some (rp B32 (b4b (rv B32 x.1) (b6d (rv B32 x.2.1))),())else none
theorem S.e3g (x r) (h:S.a9k x=some r):∃k,P.e3f k x=some r:=by
 obtain⟨x,y,u⟩:=x;unfold S.a9k at h;dsimp only at h;split at h
 case isFalse=>cases h
 rename_i hc;obtain⟨hx,hy⟩:=hc;cases h;have hy':=a6h.1 hy;refine⟨0,?_⟩;have e1:S.a3r (y,())=some (rp B32 (b6d (rv B32 y)),()):=if_pos hy'.1;have hz:c3b B32 40000000 (rp B32 (b6d (rv B32 y)))=true:=by
  rw[a6h,a3q a0e];obtain⟨n2,p2,q2,rfl,y1,y2⟩:=b0t hy'.1;rw[b9b a0e]at hy' ⊢;exact⟨b8o.2 ⟨a0m a0e _,a0m a0e _,y1,y2⟩,b0i _ hy'.2⟩
 have e2:S.a1l (x,(rp B32 (b6d (rv B32 y)),()))=some (rp B32 (b4b (rv B32 x) (b6d (rv B32 y))),()):=by
  unfold S.a1l;dsimp only;rw[if_pos ⟨hx,hz⟩,a3q a0e]
 show Option.bind (S.a3r (y,())) (fun y0=>Option.bind (S.a1l (x,(y0.1,()))) (fun y1=>some (y1.1,())))=_;rw[e1,Option.bind_some,e2,Option.bind_some]
theorem ri_sub {x y:Q3} {m n:Nat} (hx:low x) (bx:below m x) (hy:low y) (bY:below n y) (hm:m<=350000000) (hn:n<=350000000):S.a9k (rp B32 x,(rp B32 y,()))=some (rp B32 (b4b x (b6d y)),()):=by
 unfold S.a9k;dsimp only;rw[if_pos ⟨a3y (by decide) hx bx (by omega),a3y (by decide) hy bY (by omega)⟩,a3q a0e,a3q a0e]
def P.d0m (k:Nat) (x:RB×RB×Unit):Option (RB×Unit):=
 (S.a0y ((x.1.1,x.1.2.1,x.1.2.2),())).bind fun y0=>if y0.1==0 then(S.a2l (0,())).bind fun y1=>some ((y1.1.1,y1.1.2.1,y1.1.2.2),())else(S.a0y ((x.2.1.1,x.2.1.2.1,x.2.1.2.2),())).bind fun y2=>if y2.1==0 then(S.a2l (0,())).bind fun y3=>some ((y3.1.1,y3.1.2.1,y3.1.2.2),())else(S.a5k (false,x.1.2.1,x.2.1.2.2,())).bind fun y4=>(S.a5k (false,x.2.1.2.1,x.1.2.2,())).bind fun y5=>(S.a2n (y4.1.2.1,y5.1.2.1,())).bind fun y6=>(S.a2n (y4.1.2.2,y5.1.2.2,())).bind fun y7=>some ((! (x.1.1==x.2.1.1),y6.1,y7.1),())
theorem rm_mul (p q:Nat) (hp:(nd B32 p).length<=100000000) (hq:(nd B32 q).length<=100000000):S.a2n (nd B32 p,(nd B32 q,()))=some (nd B32 (p*q),()):=by
 unfold S.a2n;dsimp only;rw[if_pos ⟨a3w a0e _,a3w a0e _,by omega,by omega⟩,a0i a0e,a0i a0e]
theorem rm_low (n:Bool) (p q:Nat) (hp:(nd B32 p).length<=100000000) (hq:(nd B32 q).length<=100000000) (h0:q≠0):S.a5k (n,(nd B32 p,(nd B32 q,())))=some (rp B32 (c1e n p q),()):=by
 unfold S.a5k;dsimp only;rw[if_pos ⟨a0m a0e _,a0m a0e _,nd_ne a0e h0,by omega,by omega⟩,a0i a0e,a0i a0e]
theorem rm_sign (n:Bool) (p:Nat) (bs:List Int):S.a0y ((n,(nd B32 p,bs)),())=some (e2x n p,()):=by
 unfold S.a0y;dsimp only;rw[if_pos (a0m a0e _),a0i a0e]
theorem rm_zero:S.a2l (0,())=some (rp B32 (false,(0,1)),()):=by
 unfold S.a2l;rfl
def S.a4w (x:(RB×(RB×Unit))):(Option (RB×Unit)):=if c3b B32 40000000 x.1=true/\c3b B32 40000000 x.2.1=true then some (rp B32 (c7m (rv B32 x.1) (rv B32 x.2.1)),())else none
theorem S.e3h (x r) (h:S.a4w x=some r):∃k,P.d0m k x=some r:=by
 obtain⟨x,y,u⟩:=x;unfold S.a4w at h;dsimp only at h;split at h
 case isFalse=>cases h
 rename_i hc;obtain⟨hx,hy⟩:=hc;cases h;rw[a6h]at hx hy;obtain⟨hx,lx⟩:=hx;obtain⟨hy,ly⟩:=hy;obtain⟨n1,p1,q1,rfl,x1,x2⟩:=b0t hx;obtain⟨n2,p2,q2,rfl,y1,y2⟩:=b0t hy;rw[b9b a0e]at lx ly ⊢;rw[b9b a0e];have hq1:0<q1:=lx.1;have hq2:0<q2:=ly.1;refine⟨0,?_⟩;unfold P.d0m c7m;dsimp only;rw[rm_sign,Option.bind_some,rm_zero,Option.bind_some];dsimp only
 by_cases h1:p1=0
 ·rw[if_pos (by simpa using a5w.2 h1),h1,Nat.zero_mul,lowN_zero _ (Nat.mul_pos hq1 hq2)]
 ·rw[if_neg (by simpa using fun q=>h1 (a5w.1 q)),rm_sign,Option.bind_some];dsimp only
  by_cases h2:p2=0
  ·rw[if_pos (by simpa using a5w.2 h2),h2,Nat.mul_zero,lowN_zero _ (Nat.mul_pos hq1 hq2)]
  ·have d1:=c1h a0e p1 (Nat.gcd p1 q2);have d2:=c1h a0e p2 (Nat.gcd p2 q1);have d3:=c1h a0e q2 (Nat.gcd p1 q2);have d4:=c1h a0e q1 (Nat.gcd p2 q1);rw[if_neg (by simpa using fun q=>h2 (a5w.1 q)),rm_low false p1 q2 (by omega) (by omega) (by omega),Option.bind_some,rm_low false p2 q1 (by omega) (by omega) (by omega),Option.bind_some,cross_mul _ (fun _=>⟨h1,h2⟩) hq1 hq2 lx.2.2 ly.2.2];unfold rp c1e;dsimp only;rw[rm_mul _ _ (by omega) (by omega),Option.bind_some,rm_mul _ _ (by omega) (by omega),Option.bind_some];rfl
def P.d7d (k:Nat) (x:RB×RB×Unit):Option (RB×Unit):=
 (S.a4w ((x.1.1,x.1.2.1,x.1.2.2),(x.2.1.1,x.2.1.2.2,x.2.1.2.1),())).bind fun y0=>some ((y0.1.1,y0.1.2.1,y0.1.2.2),())
def S.a8s (x:(RB×(RB×Unit))):(Option (RB×Unit)):=if c3b B32 40000000 x.1=true/\c3b B32 40000000 x.2.1=true/\(rv B32 x.2.1).2.1≠0 then some (rp B32 (b0p (rv B32 x.1) (rv B32 x.2.1)),())else none
theorem S.d8j (x r) (h:S.a8s x=some r):∃k,P.d7d k x=some r:=by
 obtain⟨x,y,u⟩:=x;unfold S.a8s at h;dsimp only at h;split at h
 case isFalse=>cases h
 rename_i hc;obtain⟨hx,hy,h0⟩:=hc;cases h;have hy':=a6h.1 hy;refine⟨0,?_⟩;have e2:S.a4w (x,((y.1,(y.2.2,y.2.1)),()))=some (rp B32 (b0p (rv B32 x) (rv B32 y)),()):=by
  unfold S.a4w;dsimp only;have hz:c3b B32 40000000 (y.1,(y.2.2,y.2.1))=true:=by
   rw[a6h];obtain⟨r1,l1⟩:=hy';have r2:=b8o.1 r1;refine⟨b8o.2 ⟨r2.2.1,r2.1,r2.2.2.2,r2.2.2.1⟩,?_⟩;obtain⟨l1,l2,l3⟩:=l1;refine⟨Nat.pos_of_ne_zero h0,fun _=>Nat.ne_of_gt l1,?_⟩;rw[Nat.gcd_comm];exact l3
  rw[if_pos ⟨hx,hz⟩];rfl
 show Option.bind (S.a4w (x,((y.1,(y.2.2,y.2.1)),()))) (fun y0=>some (y0.1,()))=_;rw[e2,Option.bind_some]
abbrev i_solve.A:=Int×Int×List (List RB×Nat)×Int×RB×Int×List RB×Int×Int×Unit
abbrev i_solve.B:=Int×Int×List (List RB×Nat)×Int×List RB×Int×Int×Unit
abbrev i_solve.C:=Option ((Unit×Bool)×List (List RB×Nat)×List RB×Unit)
abbrev i_solve.D:=Int×Int×List RB×Int×List (List RB×Nat)×Unit
abbrev i_solve.E:=Int×Int×Int×List (List RB×Nat)×List RB×Unit
abbrev i_solve.F:=Int×Int×List RB×List (List RB×Nat)×Unit
abbrev P.b4f (g13:i_solve.B->i_solve.C) (x19:i_solve.A) (g20:i_solve.A->i_solve.C):i_solve.C:=
 (fun(a b d f i j:Int) (c:List (List RB×Nat)) (e:RB) (h:List RB)=>if decide (a<b)then if decide (0<=d)then if decide (d<(List.length (hd0 c):Int))then if decide (0<=d)then if decide (d<(List.length (hd0 c):Int))then if decide (0<=a)then if decide (a<(((List.getD (hd0 c) (0+d.toNat) (0,0)).2:Nat):Int))then if decide (0<=f)then if decide (f<(List.length (hd0 c):Int))then if decide (0<=a)then if decide (a<(((List.getD (hd0 c) (0+f.toNat) (0,0)).2:Nat):Int))then(S.a4w ((e.1,e.2.1,e.2.2),((List.getD (List.getD (in0 c) (List.getD (hd0 c) (0+f.toNat) (0,0)).1 []) (0+a.toNat) (false,[],[])).1,(List.getD (List.getD (in0 c) (List.getD (hd0 c) (0+f.toNat) (0,0)).1 []) (0+a.toNat) (false,[],[])).2.1,(List.getD (List.getD (in0 c) (List.getD (hd0 c) (0+f.toNat) (0,0)).1 []) (0+a.toNat) (false,[],[])).2.2),())).bind fun y21=>(S.a9k (((List.getD (List.getD (in0 c) (List.getD (hd0 c) (0+d.toNat) (0,0)).1 []) (0+a.toNat) (false,[],[])).1,(List.getD (List.getD (in0 c) (List.getD (hd0 c) (0+d.toNat) (0,0)).1 []) (0+a.toNat) (false,[],[])).2.1,(List.getD (List.getD (in0 c) (List.getD (hd0 c) (0+d.toNat) (0,0)).1 []) (0+a.toNat) (false,[],[])).2.2),(y21.1.1,y21.1.2.1,y21.1.2.2),())).bind fun y22=>if decide (0<=a)then if decide (a<(((List.getD (hd0 c) (0+d.toNat) (0,0)).2:Nat):Int))then if dup (List.map (fun(y23:Nat×Nat)=>y23.1) (hd0 c))then none else g20 (wrap .i64 (a+1),b,nrm (hd0 c) (List.set (in0 c) (List.getD (hd0 c) (0+d.toNat) (0,0)).1 (List.set (List.getD (in0 c) (List.getD (hd0 c) (0+d.toNat) (0,0)).1 []) (0+a.toNat) (y22.1.1,y22.1.2.1,y22.1.2.2))),d,(e.1,e.2.1,e.2.2),f,h,i,j,())else none else none else none else none else none else none else none else none else none else none else none else none else if decide (0<=d)then if decide (d<(h.length:Int))then if decide (0<=f)then if decide (f<(h.length:Int))then(S.a4w ((e.1,e.2.1,e.2.2),((h.getD (0+f.toNat) (false,[],[])).1,(h.getD (0+f.toNat) (false,[],[])).2.1,(h.getD (0+f.toNat) (false,[],[])).2.2),())).bind fun y24=>(S.a9k (((h.getD (0+d.toNat) (false,[],[])).1,(h.getD (0+d.toNat) (false,[],[])).2.1,(h.getD (0+d.toNat) (false,[],[])).2.2),(y24.1.1,y24.1.2.1,y24.1.2.2),())).bind fun y25=>if decide (0<=d)then if decide (d<(h.length:Int))then if dup (List.map (fun(y26:Nat×Nat)=>y26.1) (hd0 c))then none else g13 (wrap .i64 (d+1),b,nrm (hd0 c) (in0 c),f,h.set (0+d.toNat) (y25.1.1,y25.1.2.1,y25.1.2.2),i,j,())else none else none else none else none else none else none) x19.1 x19.2.1 x19.2.2.2.1 x19.2.2.2.2.2.1 x19.2.2.2.2.2.2.2.1 x19.2.2.2.2.2.2.2.2.1 x19.2.2.1 x19.2.2.2.2.1 x19.2.2.2.2.2.2.1
abbrev P.a8k (k:Nat) (g3:i_solve.E->i_solve.C) (x12:i_solve.B) (g13:i_solve.B->i_solve.C):i_solve.C:=
 (fun(a b d f h:Int) (c:List (List RB×Nat)) (e:List RB)=>if decide (a<b)then if decide (0<=a)then if decide (a<(List.length (hd0 c):Int))then if decide (0<=d)then if decide (d<(((List.getD (hd0 c) (0+a.toNat) (0,0)).2:Nat):Int))then(S.a0y (((List.getD (List.getD (in0 c) (List.getD (hd0 c) (0+a.toNat) (0,0)).1 []) (0+d.toNat) (false,[],[])).1,(List.getD (List.getD (in0 c) (List.getD (hd0 c) (0+a.toNat) (0,0)).1 []) (0+d.toNat) (false,[],[])).2.1,(List.getD (List.getD (in0 c) (List.getD (hd0 c) (0+a.toNat) (0,0)).1 []) (0+d.toNat) (false,[],[])).2.2),())).bind fun y14=>if y14.1==0 then if dup (List.map (fun(y15:Nat×Nat)=>y15.1) (hd0 c))then none else g13 (wrap .i64 (a+1),b,nrm (hd0 c) (in0 c),d,e,f,h,())else if decide (0<=a)then if decide (a<(List.length (hd0 c):Int))then if decide (0<=d)then if decide (d<(((List.getD (hd0 c) (0+a.toNat) (0,0)).2:Nat):Int))then if decide (0<=d)then if decide (d<(List.length (hd0 c):Int))then if decide (0<=d)then if decide (d<(((List.getD (hd0 c) (0+d.toNat) (0,0)).2:Nat):Int))then(S.a8s (((List.getD (List.getD (in0 c) (List.getD (hd0 c) (0+a.toNat) (0,0)).1 []) (0+d.toNat) (false,[],[])).1,(List.getD (List.getD (in0 c) (List.getD (hd0 c) (0+a.toNat) (0,0)).1 []) (0+d.toNat) (false,[],[])).2.1,(List.getD (List.getD (in0 c) (List.getD (hd0 c) (0+a.toNat) (0,0)).1 []) (0+d.toNat) (false,[],[])).2.2),((List.getD (List.getD (in0 c) (List.getD (hd0 c) (0+d.toNat) (0,0)).1 []) (0+d.toNat) (false,[],[])).1,(List.getD (List.getD (in0 c) (List.getD (hd0 c) (0+d.toNat) (0,0)).1 []) (0+d.toNat) (false,[],[])).2.1,(List.getD (List.getD (in0 c) (List.getD (hd0 c) (0+d.toNat) (0,0)).1 []) (0+d.toNat) (false,[],[])).2.2),())).bind fun y16=>if dup (List.map (fun(y17:Nat×Nat)=>y17.1) (hd0 c))then none else loopP (P.b4f g13) k (d,b,nrm (hd0 c) (in0 c),a,(y16.1.1,y16.1.2.1,y16.1.2.2),d,e,f,h,())else none else none else none else none else none else none else none else none else none else none else none else none else if dup (List.map (fun(y27:Nat×Nat)=>y27.1) (hd0 c))then none else g3 (wrap .i64 (f+1),h,b,nrm (hd0 c) (in0 c),e,())) x12.1 x12.2.1 x12.2.2.2.1 x12.2.2.2.2.2.1 x12.2.2.2.2.2.2.1 x12.2.2.1 x12.2.2.2.2.1
abbrev P.c0r (k:Nat) (g3:i_solve.E->i_solve.C) (x6:i_solve.B) (g7:i_solve.B->i_solve.C):i_solve.C:=
 (fun(a b d f h:Int) (c:List (List RB×Nat)) (e:List RB)=>if decide (a<b)then if decide (0<=a)then if decide (a<(List.length (hd0 c):Int))then if decide (0<=d)then if decide (d<(((List.getD (hd0 c) (0+a.toNat) (0,0)).2:Nat):Int))then(S.a0y (((List.getD (List.getD (in0 c) (List.getD (hd0 c) (0+a.toNat) (0,0)).1 []) (0+d.toNat) (false,[],[])).1,(List.getD (List.getD (in0 c) (List.getD (hd0 c) (0+a.toNat) (0,0)).1 []) (0+d.toNat) (false,[],[])).2.1,(List.getD (List.getD (in0 c) (List.getD (hd0 c) (0+a.toNat) (0,0)).1 []) (0+d.toNat) (false,[],[])).2.2),())).bind fun y8=>if y8.1==0 then if dup (List.map (fun(y9:Nat×Nat)=>y9.1) (hd0 c))then none else g7 (wrap .i64 (a+1),b,nrm (hd0 c) (in0 c),d,e,f,h,())else if a==b then none else if decide (0<=a)then if decide (a<(List.length (hd0 c):Int))then if decide (0<=d)then if decide (d<(List.length (hd0 c):Int))then if decide (0<=a)then if decide (a<(e.length:Int))then if decide (0<=d)then if decide (d<(e.length:Int))then if decide (0<=d)then if decide (d<(List.length (hd0 c):Int))then if decide (0<=a)then if decide (a<(List.length (List.set (hd0 c) (0+d.toNat) ((List.getD (hd0 c) (0+a.toNat) (0,0)).1,(List.getD (hd0 c) (0+a.toNat) (0,0)).2)):Int))then if decide (0<=d)then if decide (d<(e.length:Int))then if decide (0<=a)then if decide (a<(List.length (e.set (0+d.toNat) ((e.getD (0+a.toNat) (false,[],[])).1,(e.getD (0+a.toNat) (false,[],[])).2.1,(e.getD (0+a.toNat) (false,[],[])).2.2)):Int))then if dup (List.map (fun(y10:Nat×Nat)=>y10.1) (List.set (List.set (hd0 c) (0+d.toNat) ((List.getD (hd0 c) (0+a.toNat) (0,0)).1,(List.getD (hd0 c) (0+a.toNat) (0,0)).2)) (0+a.toNat) ((List.getD (hd0 c) (0+d.toNat) (0,0)).1,(List.getD (hd0 c) (0+d.toNat) (0,0)).2)))then none else loopP (P.a8k k g3) k (wrap .i64 (d+1),b,nrm (List.set (List.set (hd0 c) (0+d.toNat) ((List.getD (hd0 c) (0+a.toNat) (0,0)).1,(List.getD (hd0 c) (0+a.toNat) (0,0)).2)) (0+a.toNat) ((List.getD (hd0 c) (0+d.toNat) (0,0)).1,(List.getD (hd0 c) (0+d.toNat) (0,0)).2)) (in0 c),d,List.set (e.set (0+d.toNat) ((e.getD (0+a.toNat) (false,[],[])).1,(e.getD (0+a.toNat) (false,[],[])).2.1,(e.getD (0+a.toNat) (false,[],[])).2.2)) (0+a.toNat) ((e.getD (0+d.toNat) (false,[],[])).1,(e.getD (0+d.toNat) (false,[],[])).2.1,(e.getD (0+d.toNat) (false,[],[])).2.2),f,h,())else none else none else none else none else none else none else none else none else none else none else none else none else none else none else none else none else none else none else none else none else if a==b then none else if decide (0<=a)then if decide (a<(List.length (hd0 c):Int))then if decide (0<=d)then if decide (d<(List.length (hd0 c):Int))then if decide (0<=a)then if decide (a<(e.length:Int))then if decide (0<=d)then if decide (d<(e.length:Int))then if decide (0<=d)then if decide (d<(List.length (hd0 c):Int))then if decide (0<=a)then if decide (a<(List.length (List.set (hd0 c) (0+d.toNat) ((List.getD (hd0 c) (0+a.toNat) (0,0)).1,(List.getD (hd0 c) (0+a.toNat) (0,0)).2)):Int))then if decide (0<=d)then if decide (d<(e.length:Int))then if decide (0<=a)then if decide (a<(List.length (e.set (0+d.toNat) ((e.getD (0+a.toNat) (false,[],[])).1,(e.getD (0+a.toNat) (false,[],[])).2.1,(e.getD (0+a.toNat) (false,[],[])).2.2)):Int))then if dup (List.map (fun(y28:Nat×Nat)=>y28.1) (List.set (List.set (hd0 c) (0+d.toNat) ((List.getD (hd0 c) (0+a.toNat) (0,0)).1,(List.getD (hd0 c) (0+a.toNat) (0,0)).2)) (0+a.toNat) ((List.getD (hd0 c) (0+d.toNat) (0,0)).1,(List.getD (hd0 c) (0+d.toNat) (0,0)).2)))then none else loopP (P.a8k k g3) k (wrap .i64 (d+1),b,nrm (List.set (List.set (hd0 c) (0+d.toNat) ((List.getD (hd0 c) (0+a.toNat) (0,0)).1,(List.getD (hd0 c) (0+a.toNat) (0,0)).2)) (0+a.toNat) ((List.getD (hd0 c) (0+d.toNat) (0,0)).1,(List.getD (hd0 c) (0+d.toNat) (0,0)).2)) (in0 c),d,List.set (e.set (0+d.toNat) ((e.getD (0+a.toNat) (false,[],[])).1,(e.getD (0+a.toNat) (false,[],[])).2.1,(e.getD (0+a.toNat) (false,[],[])).2.2)) (0+a.toNat) ((e.getD (0+d.toNat) (false,[],[])).1,(e.getD (0+d.toNat) (false,[],[])).2.1,(e.getD (0+d.toNat) (false,[],[])).2.2),f,h,())else none else none else none else none else none else none else none else none else none else none else none else none else none else none else none else none) x6.1 x6.2.1 x6.2.2.2.1 x6.2.2.2.2.2.1 x6.2.2.2.2.2.2.1 x6.2.2.1 x6.2.2.2.2.1
abbrev P.b4g (g49:i_solve.F->i_solve.C) (x52:i_solve.D) (g53:i_solve.D->i_solve.C):i_solve.C:=
 (fun(a b d:Int) (c:List RB) (e:List (List RB×Nat))=>if decide (a<b)then if decide (0<=d)then if decide (d<(c.length:Int))then if decide (0<=d)then if decide (d<(List.length (hd0 e):Int))then if decide (0<=a)then if decide (a<(((List.getD (hd0 e) (0+d.toNat) (0,0)).2:Nat):Int))then if decide (0<=a)then if decide (a<(c.length:Int))then(S.a4w (((List.getD (List.getD (in0 e) (List.getD (hd0 e) (0+d.toNat) (0,0)).1 []) (0+a.toNat) (false,[],[])).1,(List.getD (List.getD (in0 e) (List.getD (hd0 e) (0+d.toNat) (0,0)).1 []) (0+a.toNat) (false,[],[])).2.1,(List.getD (List.getD (in0 e) (List.getD (hd0 e) (0+d.toNat) (0,0)).1 []) (0+a.toNat) (false,[],[])).2.2),((c.getD (0+a.toNat) (false,[],[])).1,(c.getD (0+a.toNat) (false,[],[])).2.1,(c.getD (0+a.toNat) (false,[],[])).2.2),())).bind fun y54=>(S.a9k (((c.getD (0+d.toNat) (false,[],[])).1,(c.getD (0+d.toNat) (false,[],[])).2.1,(c.getD (0+d.toNat) (false,[],[])).2.2),(y54.1.1,y54.1.2.1,y54.1.2.2),())).bind fun y55=>if decide (0<=d)then if decide (d<(c.length:Int))then if dup (List.map (fun(y56:Nat×Nat)=>y56.1) (hd0 e))then none else g53 (wrap .i64 (a+1),b,c.set (0+d.toNat) (y55.1.1,y55.1.2.1,y55.1.2.2),d,nrm (hd0 e) (in0 e),())else none else none else none else none else none else none else none else none else none else none else if decide (0<=d)then if decide (d<(c.length:Int))then if decide (0<=d)then if decide (d<(List.length (hd0 e):Int))then if decide (0<=d)then if decide (d<(((List.getD (hd0 e) (0+d.toNat) (0,0)).2:Nat):Int))then(S.a8s (((c.getD (0+d.toNat) (false,[],[])).1,(c.getD (0+d.toNat) (false,[],[])).2.1,(c.getD (0+d.toNat) (false,[],[])).2.2),((List.getD (List.getD (in0 e) (List.getD (hd0 e) (0+d.toNat) (0,0)).1 []) (0+d.toNat) (false,[],[])).1,(List.getD (List.getD (in0 e) (List.getD (hd0 e) (0+d.toNat) (0,0)).1 []) (0+d.toNat) (false,[],[])).2.1,(List.getD (List.getD (in0 e) (List.getD (hd0 e) (0+d.toNat) (0,0)).1 []) (0+d.toNat) (false,[],[])).2.2),())).bind fun y57=>if decide (0<=d)then if decide (d<(c.length:Int))then if dup (List.map (fun(y58:Nat×Nat)=>y58.1) (hd0 e))then none else g49 (wrap .i64 (d - 1),b,c.set (0+d.toNat) (y57.1.1,y57.1.2.1,y57.1.2.2),nrm (hd0 e) (in0 e),())else none else none else none else none else none else none else none else none) x52.1 x52.2.1 x52.2.2.2.1 x52.2.2.1 x52.2.2.2.2.1
abbrev P.b4h (k:Nat) (x48:i_solve.F) (g49:i_solve.F->i_solve.C):i_solve.C:=
 if decide (x48.1>=0)then if dup (List.map (fun(y50:Nat×Nat)=>y50.1) (hd0 x48.2.2.2.1))then none else loopP (P.b4g g49) k (wrap .i64 (x48.1+1),x48.2.1,x48.2.2.1,x48.1,nrm (hd0 x48.2.2.2.1) (in0 x48.2.2.2.1),())else if dup (List.map (fun(y59:Nat×Nat)=>y59.1) (hd0 x48.2.2.2.1))then none else some (((),true),nrm (hd0 x48.2.2.2.1) (in0 x48.2.2.2.1),x48.2.2.1,())
abbrev P.c0s (k:Nat) (x2:i_solve.E) (g3:i_solve.E->i_solve.C):i_solve.C:=
 if decide (x2.1<x2.2.1)then if dup (List.map (fun(y4:Nat×Nat)=>y4.1) (hd0 x2.2.2.2.1))then none else loopP (P.c0r k g3) k (x2.1,x2.2.2.1,nrm (hd0 x2.2.2.2.1) (in0 x2.2.2.2.1),x2.1,x2.2.2.2.2.1,x2.1,x2.2.1,())else if dup (List.map (fun(y46:Nat×Nat)=>y46.1) (hd0 x2.2.2.2.1))then none else loopP (P.b4h k) k (wrap .i64 (x2.2.2.1 - 1),x2.2.2.1,x2.2.2.2.2.1,nrm (hd0 x2.2.2.2.1) (in0 x2.2.2.2.1),())
def P.i_solve (k:Nat) (x:List (List RB×Nat)×List RB×Unit):i_solve.C:=
 if dup (List.map (fun(y0:Nat×Nat)=>y0.1) (hd0 x.1))then none else loopP (P.c0s k) k (0,(List.length (hd0 x.1):Int),(List.length (hd0 x.1):Int),nrm (hd0 x.1) (in0 x.1),x.2.1,())
theorem si_mul {a b:Q3} (ha:okq a) (hb:okq b):S.a4w (((rp B32 a).1,(rp B32 a).2.1,(rp B32 a).2.2),((rp B32 b).1,(rp B32 b).2.1,(rp B32 b).2.2),())=some (rp B32 (c7m a b),()):=by
 show S.a4w (rp B32 a,rp B32 b,())=_;unfold S.a4w;dsimp only;rw[if_pos ⟨b8e (by decide) ha,b8e (by decide) hb⟩,a3q a0e,a3q a0e]
theorem si_sub {a b:Q3} (ha:okq a) (hb:okq b):S.a9k (((rp B32 a).1,(rp B32 a).2.1,(rp B32 a).2.2),((rp B32 b).1,(rp B32 b).2.1,(rp B32 b).2.2),())=some (rp B32 (b4b a (b6d b)),()):=ri_sub ha.1 ha.2 hb.1 hb.2 (Nat.le_refl _) (Nat.le_refl _)
theorem si_over {a b:Q3} (ha:okq a) (hb:okq b) (h0:b.2.1≠0):S.a8s (((rp B32 a).1,(rp B32 a).2.1,(rp B32 a).2.2),((rp B32 b).1,(rp B32 b).2.1,(rp B32 b).2.2),())=some (rp B32 (b0p a b),()):=by
 show S.a8s (rp B32 a,rp B32 b,())=_;unfold S.a8s;dsimp only;rw[if_pos ⟨b8e (by decide) ha,b8e (by decide) hb,by rw[a3q a0e];exact h0⟩,a3q a0e,a3q a0e]
theorem si_sign (q:Q3):S.a0y (((rp B32 q).1,(rp B32 q).2.1,(rp B32 q).2.2),())=some (e2x q.1 q.2.1,()):=by
 unfold S.a0y rp;dsimp only;rw[if_pos (a0m (by decide) _),a0i (by decide)]
def svN (b:Nat->Nat->Q3) (k r j:Nat):Nat->Nat->Q3:=fun x y=>if x<r\/(x=r/\y<j)then elF false b k x y else b x y
theorem svN_k (b:Nat->Nat->Q3) (k r j y:Nat):svN b k r j k y=b k y:=by
 unfold svN
 by_cases w:k<r\/(k=r/\y<j)
 ·rw[if_pos w];unfold elF;rw[if_neg (fun q=>by
   rcases q.1 with q|q
   ·omega
   ·exact q.2 rfl)]
 ·rw[if_neg w]
theorem svN_row (b:Nat->Nat->Q3) (k r:Nat) (h:r<=k\/(b r k).2.1=0):svN b k r 0=svN b k (r+1) 0:=by
 funext x y;unfold svN
 by_cases w:x<r
 ·rw[if_pos (Or.inl w),if_pos (Or.inl (by omega))]
 ·by_cases w2:x=r
  ·subst w2;rw[if_neg (by omega),if_pos (Or.inl (by omega))];unfold elF;rw[if_neg (fun q=>by
    rcases h with h|h
    ·rcases q.1 with q|q
     ·omega
     ·exact absurd q.1 (by decide)
    ·exact q.2.1 h)]
  ·rw[if_neg (by omega),if_neg (by omega)]
theorem svN_start (b:Nat->Nat->Q3) (k:Nat):svN b k (k+1) 0=b:=by
 funext x y;unfold svN
 by_cases w:x<k+1
 ·rw[if_pos (Or.inl w)];unfold elF;rw[if_neg (fun q=>by
   rcases q.1 with q|q
   ·omega
   ·exact absurd q.1 (by decide))]
 ·rw[if_neg (by omega)]
def rtN (a:Nat->Nat->Q3) (n:Nat):List (Bool×(List Int×List Int)):=(tab n fun x=>a x n).map (rp B32)
theorem si_inner {b:Nat->Nat->Q3} {n k:Nat} (h:elOk b n k) {r:Nat} (hr:r<n) (hrk:k<r) (hf:(b r k).2.1≠0) (g) {K:Nat} (hK:13<K):
  loopP (P.b4f g) K ((k:Int),(n:Int),om B32 n n (svN b k r 0),(r:Int),rp B32 (b0p (b r k) (b k k)),(k:Int),rtN (svN b k r 0) n,(k:Int),(n:Int),())=g (((r+1:Nat):Int),(n:Int),om B32 n n (svN b k (r+1) 0),(k:Int),rtN (svN b k (r+1) 0) n,(k:Int),(n:Int),()):=by
 obtain⟨kn,n12,hnum,hp,hF,hM⟩:=h;have hstart:svN b k r 0=svN b k r k:=by
  funext x y;unfold svN
  by_cases w:x<r
  ·rw[if_pos (Or.inl w),if_pos (Or.inl w)]
  ·rw[if_neg (by omega)]
   by_cases w2:x=r/\y<k
   ·rw[if_pos (Or.inr w2)];unfold elF;rw[if_neg (fun q=>by omega)]
   ·rw[if_neg (fun q=>q.elim w w2)]
 have key:=d2l (k:=K) (b:=P.b4f g) (s:=k) (n:=n) (st:=fun j=>((j:Int),(n:Int),om B32 n n (svN b k r j),(r:Int),rp B32 (b0p (b r k) (b k k)),(k:Int),rtN (svN b k r 0) n,(k:Int),(n:Int),())) (F:=fun _=>g (((r+1:Nat):Int),(n:Int),om B32 n n (svN b k (r+1) 0),(k:Int),rtN (svN b k (r+1) 0) n,(k:Int),(n:Int),())) (by omega) (fun j g' hkj hj hg=>by
  unfold P.b4f;dsimp only at hg ⊢;have e1:(j:Int)<(n:Int):=by omega
  have e2:(0:Int)<=(j:Int):=by omega
  have e3:(0:Int)<=(r:Int):=by omega
  have e4:(r:Int)<(n:Int):=by omega
  have e5:(0:Int)<=(k:Int):=by omega
  have e6:(k:Int)<(n:Int):=by omega
  have v2:svN b k r j k j=b k j:=svN_k ..;have v3:svN b k r j r j=b r j:=by
   unfold svN;rw[if_neg (by omega)]
  have v5:updM (svN b k r j) r j (b4b (b r j) (b6d (c7m (b0p (b r k) (b k k)) (b k j))))=svN b k r (j+1):=by
   funext x y;unfold updM
   by_cases q:x=r/\y=j
   ·rw[if_pos q,q.1,q.2];unfold svN;rw[if_pos (Or.inr ⟨rfl,by omega⟩)];unfold elF;rw[if_pos ⟨Or.inl hrk,hf,hkj⟩];rfl
   ·rw[if_neg q];unfold svN
    by_cases w:x<r\/(x=r/\y<j)
    ·rw[if_pos w,if_pos (by omega)]
    ·rw[if_neg w,if_neg (by omega)]
  simp only[a0t,a4h,Int.toNat_natCast,Nat.zero_add,b8d hr,b8d kn,c1m hr,c1m kn,a4s hj,a1d,e1,e2,e3,e4,e5,e6,decide_true,if_true,Bool.false_eq_true,if_false,v2,v3];rw[si_mul (hF r hr) (hnum k kn j (by omega)),Option.bind_some];dsimp only;rw[si_sub (hnum r hr j (by omega)) (hM r hr j (by omega)),Option.bind_some];dsimp only;rw[wr (by omega) (by omega)];show g' (_,_,nrm (hd0 _) ((in0 _).set r (((tab n (svN b k r j r)).map (rp B32)).set j (rp B32 _))),_)=_;rw[om_write hr,v5];exact hg) (fun g'=>by
  unfold P.b4f;dsimp only;have e3:(0:Int)<=(r:Int):=by omega
  have e4:(r:Int)<(n:Int):=by omega
  have e5:(0:Int)<=(k:Int):=by omega
  have e6:(k:Int)<(n:Int):=by omega
  have v1:svN b k r 0 k n=b k n:=svN_k ..;have v2:svN b k r 0 r n=b r n:=by
   unfold svN;rw[if_neg (by omega)]
  have ho:om B32 n n (svN b k r n)=om B32 n n (svN b k (r+1) 0):=b5r fun x hx y hy=>by
   unfold svN
   by_cases w:x<r\/(x=r/\y<n)
   ·rw[if_pos w,if_pos (by omega)]
   ·rw[if_neg w,if_neg (by omega)]
  have hrt:(tab n fun x=>if x=r then b4b (b r n) (b6d (c7m (b0p (b r k) (b k k)) (b k n)))else svN b k r 0 x n)=tab n fun x=>svN b k (r+1) 0 x n:=a0p fun x hx=>by
   unfold svN
   by_cases q:x=r
   ·rw[if_pos q,q,if_pos (Or.inl (by omega))];unfold elF;rw[if_pos ⟨Or.inl hrk,hf,by omega⟩];rfl
   ·rw[if_neg q]
    by_cases w:x<r
    ·rw[if_pos (Or.inl w),if_pos (Or.inl (by omega))]
    ·rw[if_neg (by omega),if_neg (by omega)]
  rw[if_neg (by simp)];unfold rtN;simp only[List.length_map,a0s,Int.toNat_natCast,Nat.zero_add,a4s kn,a4s hr,a1d,a1t,e3,e4,e5,e6,decide_true,if_true,Bool.false_eq_true,if_false,v1,v2];rw[si_mul (hF r hr) (hnum k kn n (Nat.le_refl _)),Option.bind_some];dsimp only;rw[si_sub (hnum r hr n (Nat.le_refl _)) (hM r hr n (Nat.le_refl _)),Option.bind_some];dsimp only;rw[wr (by omega) (by omega),ho];show g (_,_,_,_,((tab n _).map (rp B32)).set r (rp B32 _),_)=_;rw[c9y,hrt];rfl) (by omega)
 have hk:=key;rw[<-hstart]at hk;exact hk
theorem si_rows {b:Nat->Nat->Q3} {n k:Nat} (h:elOk b n k) (g) {K:Nat} (hK:13<K):
  loopP (P.a8k K g) K (((k+1:Nat):Int),(n:Int),om B32 n n b,(k:Int),rtN b n,(k:Int),(n:Int),())=g (((k+1:Nat):Int),(n:Int),(n:Int),om B32 n n (elF false b k),rtN (elF false b k) n,()):=by
 have h':=h;obtain⟨kn,n12,hnum,hp,hF,hM⟩:=h
 have key:=d2l (k:=K) (b:=P.a8k K g) (s:=k+1) (n:=n) (st:=fun r=>((r:Int),(n:Int),om B32 n n (svN b k r 0),(k:Int),rtN (svN b k r 0) n,(k:Int),(n:Int),())) (F:=fun _=>g (((k+1:Nat):Int),(n:Int),(n:Int),om B32 n n (elF false b k),rtN (elF false b k) n,())) (by omega) (fun r g' hkr hr hg=>by
  unfold P.a8k;dsimp only at hg ⊢;have e1:(r:Int)<(n:Int):=by omega
  have e3:(0:Int)<=(r:Int):=by omega
  have e5:(0:Int)<=(k:Int):=by omega
  have e6:(k:Int)<(n:Int):=by omega
  have v1:svN b k r 0 r k=b r k:=by
   unfold svN;rw[if_neg (by omega)]
  have v2:svN b k r 0 k k=b k k:=svN_k ..;simp only[a0t,a4h,Int.toNat_natCast,Nat.zero_add,b8d hr,b8d kn,c1m hr,c1m kn,a4s kn,a1d,a1t,e1,e3,e5,e6,decide_true,if_true,Bool.false_eq_true,if_false,v1,v2];rw[si_sign,Option.bind_some]
  by_cases hz:(b r k).2.1=0
  ·rw[if_pos (by rw[beq_iff_eq,a5w];exact hz),wr (by omega) (by omega),<-hg,<-svN_row b k r (Or.inr hz)];rfl
  ·rw[if_neg (by rw[beq_iff_eq,a5w];exact hz),si_over (hnum r hr k (by omega)) (hnum k kn k (by omega)) hp,Option.bind_some];dsimp only;rw[<-hg];exact si_inner h' hr (by omega) hz g' hK) (fun g'=>by
  unfold P.a8k;dsimp only;rw[if_neg (by simp),a1d,a1t,if_neg (by decide),wr (by omega) (by omega)];have h1:om B32 n n (svN b k n 0)=om B32 n n (elF false b k):=b5r fun x hx y hy=>by
   unfold svN;rw[if_pos (Or.inl hx)]
  have h2:rtN (svN b k n 0) n=rtN (elF false b k) n:=by
   unfold rtN;rw[a0p fun x hx=>by
    show svN b k n 0 x n=elF false b k x n;unfold svN;rw[if_pos (Or.inl hx)]]
  rw[h1,h2];rfl) (by omega)
 rw[svN_start]at key;exact key
theorem si_search {a:Nat->Nat->Q3} {n k:Nat} (hk:k<n) (n12:n<=12) (g) {K:Nat} :∀(m i F:Nat),i+m=n->m<F->pvF (fun i=>decide ((a i k).2.1≠0)) m i<n->
  loopP (P.c0r K g) F ((i:Int),(n:Int),om B32 n n a,(k:Int),rtN a n,(k:Int),(n:Int),())=loopP (P.a8k K g) K (((k+1:Nat):Int),(n:Int),om B32 n n (swQ a k (pvF (fun i=>decide ((a i k).2.1≠0)) m i)),(k:Int),rtN (swQ a k (pvF (fun i=>decide ((a i k).2.1≠0)) m i)) n,(k:Int),(n:Int),()):=by
 intro m
 induction m with
 |zero=>
  intro i F hi hF hp;unfold pvF at hp;omega
 |succ m ih=>
  intro i F hi hF hp;obtain⟨F,rfl⟩:∃j,F=j+1:=⟨F - 1,by omega⟩
  rw[a0l];have ih':=ih (i+1) F (by omega) (by omega);generalize loopP (P.c0r K g) F=g' at ih' ⊢;unfold P.c0r;dsimp only;have hin:i<n:=by omega
  have e1:(i:Int)<(n:Int):=by omega
  have e2:(0:Int)<=(i:Int):=by omega
  have e3:(0:Int)<=(k:Int):=by omega
  have e4:(k:Int)<(n:Int):=by omega
  have hp':∀p:Nat×Nat,(p.1,p.2)=p:=fun p=>rfl
  have hq':∀q:Bool×(List Int×List Int),(q.1,q.2.1,q.2.2)=q:=fun q=>rfl
  have hrl:(rtN a n).length=n:=by unfold rtN;rw[List.length_map,a0s]
  simp only[hp',hq',a0t,a4h,List.length_set,hrl,Int.toNat_natCast,Nat.zero_add,a1d,a1t,e1,e2,e3,e4,decide_true,if_true,Bool.false_eq_true,if_false];have hcell:((in0 (om B32 n n a)).getD ((hd0 (om B32 n n a)).getD i (0,0)).1 []).getD k (false,(([]:List Int),([]:List Int)))=rp B32 (a i k):=by rw[b8d hin,c1m hin,a4s hk]
  have hwide:((hd0 (om B32 n n a)).getD i (0,0)).2=n:=by rw[b8d hin]
  rw[hcell,hwide,decide_eq_true e4,if_pos rfl];have hsg:S.a0y (rp B32 (a i k),())=some (e2x (a i k).1 (a i k).2.1,()):=si_sign _;rw[hsg,Option.bind_some];unfold pvF at hp ⊢
  by_cases hz:(a i k).2.1=0
  ·have hd:¬(decide ((a i k).2.1≠0)=true):=by simp [hz]
   rw[if_neg hd]at hp ⊢;rw[if_pos (by rw[beq_iff_eq,a5w];exact hz),wr (by omega) (by omega)];exact ih' hp
  ·have hd:decide ((a i k).2.1≠0)=true:=decide_eq_true hz;rw[if_pos hd]at hp ⊢;rw[if_neg (by rw[beq_iff_eq,a5w];exact hz),if_neg (by rw[beq_iff_eq];omega),om_swap hk hin,sw_dup,if_neg (by decide),sw_nrm hk hin,wr (by omega) (by omega)];unfold rtN;rw[sw_tab hk hin];rfl
theorem si_back {F:Nat->Nat->Q3} {n m:Nat} (h:bkOk F n) (n12:n<=12) (hnum:∀i,i<n->∀j,j<=n->okq (F i j)) (hd:∀k,k<n->(F k k).2.1≠0) (hm:m<n) (g) {K:Nat} (hK:13<K):
  loopP (P.b4g g) K (((n - 1 - m+1:Nat):Int),(n:Int),(tab n (bkQ F n m)).map (rp B32),((n - 1 - m:Nat):Int),om B32 n n F,())=g (((n - 1 - m:Nat):Int) - 1,(n:Int),(tab n (bkQ F n (m+1))).map (rp B32),om B32 n n F,()):=by
 obtain⟨k,hk⟩:∃k,k=n - 1 - m:=⟨_,rfl⟩
 have kn:k<n:=by omega
 have hb0:(fun i=>if i=k then sbQ F (bkQ F n m) k 0 else bkQ F n m i)=bkQ F n m:=by
  funext i
  by_cases q:i=k
  ·rw[if_pos q,q];rfl
  ·rw[if_neg q]
 rw[<-hk];have key:=a0f (k:=K) (b:=P.b4g g) (n:=m) (st:=fun t=>(((k+1+t:Nat):Int),(n:Int),(tab n fun i=>if i=k then sbQ F (bkQ F n m) k t else bkQ F n m i).map (rp B32),(k:Int),om B32 n n F,())) (F:=fun _=>g ((k:Int) - 1,(n:Int),(tab n (bkQ F n (m+1))).map (rp B32),om B32 n n F,())) (fun t g' ht hg=>by
  unfold P.b4g;dsimp only at hg ⊢;have jn:k+1+t<n:=by omega
  have e1:((k+1+t:Nat):Int)<(n:Int):=by omega
  have e2:(0:Int)<=((k+1+t:Nat):Int):=by omega
  have e5:(0:Int)<=(k:Int):=by omega
  have e6:(k:Int)<(n:Int):=by omega
  have v1:(if k=k then sbQ F (bkQ F n m) k t else bkQ F n m k)=sbQ F (bkQ F n m) k t:=if_pos rfl;have v2:(if k+1+t=k then sbQ F (bkQ F n m) k t else bkQ F n m (k+1+t))=bkQ F n m (k+1+t):=if_neg (by omega);have o1:=h.mul m hm t ht;have o2:=h.s m hm t (by omega);rw[<-hk]at o1 o2;have hx:(tab n fun i=>if i=k then b4b (sbQ F (bkQ F n m) k t) (b6d (c7m (F k (k+1+t)) (bkQ F n m (k+1+t))))else if i=k then sbQ F (bkQ F n m) k t else bkQ F n m i)=tab n fun i=>if i=k then sbQ F (bkQ F n m) k (t+1)else bkQ F n m i:=a0p fun i hi=>by
   by_cases q:i=k
   ·rw[if_pos q,if_pos q];rfl
   ·rw[if_neg q,if_neg q,if_neg q]
  simp only[a0t,a4h,List.length_map,a0s,Int.toNat_natCast,Nat.zero_add,b8d kn,c1m kn,a4s kn,a4s jn,a1d,a1t,e1,e2,e5,e6,decide_true,if_true,Bool.false_eq_true,if_false,v2];rw[si_mul (hnum k kn _ (by omega)) (h.b m (by omega) _ jn),Option.bind_some];dsimp only;rw[si_sub o2 o1,Option.bind_some];dsimp only;rw[wr (by omega) (by omega)];show g' (_,_,((tab n _).map (rp B32)).set k (rp B32 _),_)=_;rw[c9y,hx,show((k+1+t:Nat):Int)+1=((k+1+(t+1):Nat):Int) by omega];exact hg) (fun g'=>by
  unfold P.b4g;dsimp only;have e0:¬((k+1+m:Nat):Int)<(n:Int):=by omega
  have e5:(0:Int)<=(k:Int):=by omega
  have e6:(k:Int)<(n:Int):=by omega
  have v1:(if k=k then sbQ F (bkQ F n m) k m else bkQ F n m k)=sbQ F (bkQ F n m) k m:=if_pos rfl;have o2:=h.s m hm m (Nat.le_refl _);rw[<-hk]at o2;have hx:(tab n fun i=>if i=k then b0p (sbQ F (bkQ F n m) k m) (F k k)else if i=k then sbQ F (bkQ F n m) k m else bkQ F n m i)=tab n (bkQ F n (m+1)):=a0p fun i hi=>by
   rw[bkQ];dsimp only;rw[<-hk]
   by_cases q:i=k
   ·rw[if_pos q,if_pos q]
   ·rw[if_neg q,if_neg q,if_neg q]
  simp only[a0t,a4h,List.length_map,a0s,Int.toNat_natCast,Nat.zero_add,b8d kn,c1m kn,a4s kn,a1d,a1t,e0,e5,e6,decide_false,decide_true,if_true,Bool.false_eq_true,if_false];rw[si_over o2 (hnum k kn k (by omega)) (hd k kn),Option.bind_some];dsimp only;rw[wr (by omega) (by omega)];show g (_,_,((tab n _).map (rp B32)).set k (rp B32 _),_)=_;rw[c9y,hx]) (by omega)
 rw[hb0]at key;exact key
open Classical in
def S.b7g (x:((List ((List RB)×Nat))×((List RB)×Unit))):(Option ((Unit×Bool)×((List ((List RB)×Nat))×((List RB)×Unit)))):=
 if h:∃(a:Nat->Nat->Q3) (n:Nat),x.1=om B32 n n a/\x.2.1=rtN a n/\solOk a n then some (((),true),om B32 h.choose_spec.choose h.choose_spec.choose (elim false h.choose_spec.choose h.choose h.choose_spec.choose),(tab h.choose_spec.choose (b8b h.choose h.choose_spec.choose)).map (rp B32),())else none
theorem S.i_solve_ok (x r) (h:S.b7g x=some r):∃k,P.i_solve k x=some r:=by
 obtain⟨m,y,u⟩:=x;unfold S.b7g at h;dsimp only at h;split at h
 case isFalse=>cases h
 rename_i hc;have hs:=hc.choose_spec.choose_spec;cases h;generalize hc.choose_spec.choose=n at*;generalize hc.choose=a at*;obtain⟨rfl,rfl,⟨n12,hnum,hpiv,hel,hdia⟩,hbk⟩:=hs;refine⟨14,?_⟩;unfold P.i_solve;dsimp only;rw[a1d,a1t,a0t,a4h,if_neg (by decide)];have key:=a0f (k:=14) (b:=P.c0s 14) (n:=n) (st:=fun k=>((k:Int),(n:Int),(n:Int),om B32 n n (elim false n a k),rtN (elim false n a k) n,())) (F:=fun _=>some (((),true),om B32 n n (elim false n a n),(tab n (b8b a n)).map (rp B32),())) (fun k g hk hg=>by
  unfold P.c0s;dsimp only at hg ⊢;rw[if_pos (decide_eq_true (by omega)),a1d,a1t,if_neg (by decide)];have hp:=(hpiv k hk).2.1;have he:=hel k hk;have hs:=si_search (a:=elim false n a k) hk n12 g (K:=14) (n - k) k 14 (by omega) (by omega) hp;rw[elim]at hg;rw[<-hg];exact hs.trans (si_rows he g (by decide))) (fun g=>by
  unfold P.c0s;dsimp only;rw[if_neg (by simp),a1d,a1t,if_neg (by decide),wr (by omega) (by omega)];have hF:=hnum n (Nat.le_refl _);unfold b8b;generalize elim false n a n=F at*;have back:∀(l m G:Nat),m+l=n->l<G->loopP (P.b4h 14) G ((n:Int) - 1 - (m:Int),(n:Int),(tab n (bkQ F n m)).map (rp B32),om B32 n n F,())=some (((),true),om B32 n n F,(tab n (bkQ F n n)).map (rp B32),()):=by
   intro l
   induction l with
   |zero=>
    intro m G hm hG;obtain⟨G,rfl⟩:∃j,G=j+1:=⟨G - 1,by omega⟩
    rw[a0l];have hmn:m=n:=by omega
    subst hmn;unfold P.b4h;dsimp only;rw[if_neg (by simp;omega),a1d,a1t,if_neg (by decide)]
   |succ l ih=>
    intro m G hm hG;obtain⟨G,rfl⟩:∃j,G=j+1:=⟨G - 1,by omega⟩
    rw[a0l];have ih':=ih (m+1) G (by omega) (by omega);generalize loopP (P.b4h 14) G=g' at ih' ⊢;unfold P.b4h;dsimp only;rw[if_pos (decide_eq_true (by omega)),a1d,a1t,if_neg (by decide),wr (by omega) (by omega),<-ih',show(n:Int) - 1 - (m:Int)+1=((n - 1 - m+1:Nat):Int) by omega,show(n:Int) - 1 - (m:Int)=((n - 1 - m:Nat):Int) by omega,si_back hbk n12 hF hdia (by omega) g' (by decide),show((n - 1 - m:Nat):Int) - 1=(n:Int) - 1 - ((m+1:Nat):Int) by omega]
  have:=back n 0 14 (by omega) (by omega);rw[show(n:Int) - 1 - ((0:Nat):Int)=(n:Int) - 1 by omega]at this;exact this) (by omega)
 exact key
theorem solve_i {a:Nat->Nat->Q3} {n:Nat} (h:solOk a n):S.b7g (om B32 n n a,rtN a n,())=some (((),true),om B32 n n (elim false n a n),(tab n (b8b a n)).map (rp B32),()):=by
 unfold S.b7g;have hc:∃(b:Nat->Nat->Q3) (m:Nat),(om B32 n n a,rtN a n,()).1=om B32 m m b/\(om B32 n n a,rtN a n,()).2.1=rtN b m/\solOk b m:=⟨a,n,rfl,rfl,h⟩
 rw[dif_pos hc];obtain⟨e,er,hb⟩:=hc.choose_spec.choose_spec;dsimp only at e er;generalize hc.choose_spec.choose=m at*;generalize hc.choose=b at*;obtain⟨e1,e2⟩:=om_inj a0e e;subst e1;have hab:∀i,i<n->∀j,j<=n->a i j=b i j:=fun i hi j hj=>by
  by_cases q:j<n
  ·exact(e2 i hi).2 j q
  ·have hj:j=n:=by omega
   have h1:(rtN a n).getD i (rp B32 a0q)=(rtN b n).getD i (rp B32 a0q):=by rw[er]
   unfold rtN at h1;rw[a4s hi,a4s hi]at h1;have:=congrArg (rv B32) h1;rw[a3q a0e,a3q a0e]at this;rw[hj];exact this
 have hg:=c6o (full:=false) hab (fun k hk=>(h.el.piv k hk).2.1) n (Nat.le_refl _);have hw:tab n (b8b b n)=tab n (b8b a n):=a0p fun i hi=>by
  unfold b8b;exact(bkQ_congr hg n (Nat.le_refl _) i hi).symm
 rw[hw,b5r fun i hi j hj=>hg i hi j (by omega)]
abbrev i_reach.A:=Int×Int×List RB×List Bool×List Int×List (List RB)×Unit
abbrev i_reach.B:=List Int×List (List RB)×List Bool×Unit
abbrev i_reach.C:=Option (List Bool×Unit)
abbrev P.b6i (g2:i_reach.B->i_reach.C) (x4:i_reach.A) (g5:i_reach.A->i_reach.C):i_reach.C:=
 (fun(a b:Int) (c:List RB) (d:List Bool) (e:List Int) (f:List (List RB))=>if decide (a<b)then if decide (0<=a)then if decide (a<(c.length:Int))then(S.a0y (((c.getD a.toNat (false,[],[])).1,(c.getD a.toNat (false,[],[])).2.1,(c.getD a.toNat (false,[],[])).2.2),())).bind fun y6=>if decide (y6.1>0)then if decide (0<=a)then if decide (a<(d.length:Int))then if ! (d.getD (0+a.toNat) false)then if decide (0<=a)then if decide (a<(d.length:Int))then if decide (((e.length+(List.length [a]))*8)<=140737488355328)then g5 (wrap .i64 (a+1),b,c,d.set (0+a.toNat) true,e++[a],f,())else none else none else none else g5 (wrap .i64 (a+1),b,c,d,e,f,())else none else none else g5 (wrap .i64 (a+1),b,c,d,e,f,())else none else none else if decide (0<=(e.length:Int))then if decide (((e.length:Int)+0)<=(e.length:Int))then if decide (1<=(e.length:Int))then g2 (seen e 1 ((Int.toNat (e.length:Int)) - 1),f,d,())else none else none else none) x4.1 x4.2.1 x4.2.2.1 x4.2.2.2.1 x4.2.2.2.2.1 x4.2.2.2.2.2.1
abbrev P.c5f (k:Nat) (x1:i_reach.B) (g2:i_reach.B->i_reach.C):i_reach.C:=
 if decide ((x1.1.length:Int)>0)then if decide (0<(x1.1.length:Int))then if decide (0<=(x1.1.getD 0 0))then if decide ((x1.1.getD 0 0)<(x1.2.1.length:Int))then loopP (P.b6i g2) k (0,(List.length (x1.2.1.getD (Int.toNat (x1.1.getD 0 0)) []):Int),x1.2.1.getD (Int.toNat (x1.1.getD 0 0)) [],x1.2.2.1,x1.1,x1.2.1,())else none else none else none else some (x1.2.2.1,())
def P.i_reach (k:Nat) (x:List (List RB)×Int×Unit):i_reach.C:=
 if decide (0<=(x.1.length:Int))then if decide ((x.1.length:Int)<=(x.1.length:Int))then if decide (((x.1.length:Int)*1)<=281474976710656)then if decide (0<=x.2.1)then if decide (x.2.1<(List.length (List.replicate (Int.toNat (x.1.length:Int)) false):Int))then loopP (P.c5f k) k ([x.2.1],x.1,List.set (List.replicate (Int.toNat (x.1.length:Int)) false) (0+x.2.1.toNat) true,())else none else none else none else none else none
theorem sign_rp (q:Q3):S.a0y (((rp B32 q).1,(rp B32 q).2.1,(rp B32 q).2.2),())=some (e2x q.1 q.2.1,()):=by
 unfold S.a0y rp;dsimp only;rw[if_pos (a0m (by decide) _),a0i (by decide)]
theorem reI_inner {M:List (List Q3)} (hM:isM M) {i:Nat} (hi:i<M.length) {sn:List Bool} {td:List Nat} (hb:Bok M.length (sn,td)) (hm:td.length+sn.count false<=1000000)
  (g) {K:Nat} (hK:M.length<K):
  loopP (P.b6i g) K ((0:Int),(M.length:Int),(M.getD i []).map (rp B32),sn,zs (i::td),mp B32 M,())=g (zs (b5d (adj M i) M.length (sn,td)).2,mp B32 M,(b5d (adj M i) M.length (sn,td)).1,()):=by
 have hrow:=c3e hM hi;have hn:=hM.1;have key:=a0f (k:=K) (b:=P.b6i g) (n:=M.length) (st:=fun j=>((j:Int),(M.length:Int),(M.getD i []).map (rp B32),((List.range j).foldl (b0q (adj M i)) (sn,td)).1,zs (i::((List.range j).foldl (b0q (adj M i)) (sn,td)).2),mp B32 M,())) (F:=fun _=>g (zs (b5d (adj M i) M.length (sn,td)).2,mp B32 M,(b5d (adj M i) M.length (sn,td)).1,())) (fun j g' hj hg=>by
  unfold P.b6i;dsimp only at hg ⊢;obtain⟨b1,b2⟩:=b8t (a:=adj M i) hb j (by omega);rw[c5b]at hg;generalize (List.range j).foldl (b0q (adj M i)) (sn,td)=s at b1 b2 hg ⊢;have b3:s.2.length<=td.length+sn.count false:=by
   dsimp only at b2;omega
  have e1:(j:Int)<(M.length:Int):=by omega
  have e2:(0:Int)<=(j:Int):=by omega
  have e3:(((M.getD i []).map (rp B32)).length:Int)=(M.length:Int):=by rw[List.length_map,hrow.1]
  have e4:(zs (i::s.2)).length=s.2.length+1:=by simp [zs]
  have e5:(s.2.length+1+1)*8<=140737488355328:=by omega
  have e6:(s.1.length:Int)=(M.length:Int):=by rw[b1.len]
  rw[Int.toNat_natCast,getD_rp B32 (by rw[hrow.1];exact hj),sign_rp,Option.bind_some];simp only[e1,e2,e3,e4,e5,e6,decide_true,if_true,List.length_cons,List.length_nil,Nat.zero_add];rw[sgnQ_pos,posQ_adj hM hi hj,wr (by omega) (by omega)];unfold b0q at hg;cases ha:adj M i j
  ·rw[ha,if_neg (by simp)]at hg;rw[if_neg (by decide)];exact hg
  ·rw[if_pos rfl];cases hs:s.1.getD j false
   ·rw[ha,hs,if_pos ⟨rfl,rfl⟩]at hg;rw[if_pos (by decide),<-hg];simp [zs]
   ·rw[ha,hs,if_neg (by simp)]at hg;rw[if_neg (by decide)];exact hg) (fun g'=>by
  unfold P.b6i;dsimp only
  change _=g (zs (b5d (adj M i) M.length (sn,td)).2,mp B32 M,(b5d (adj M i) M.length (sn,td)).1,())
  rw[show(List.range M.length).foldl (b0q (adj M i)) (sn,td)=b5d (adj M i) M.length (sn,td)from rfl];generalize b5d (adj M i) M.length (sn,td)=s;have e4:(zs (i::s.2)).length=s.2.length+1:=by simp [zs]
  have e5:(0:Int)<=((s.2.length+1:Nat):Int):=by omega
  have e6:((s.2.length+1:Nat):Int)+0<=((s.2.length+1:Nat):Int):=by omega
  have e7:(1:Int)<=((s.2.length+1:Nat):Int):=by omega
  rw[if_neg (by simp)];simp only[e4,e5,e6,e7,decide_true,if_true,Int.toNat_natCast];have e8:seen (zs (i::s.2)) 1 (s.2.length+1 - 1)=zs s.2:=by
   show(zs s.2).take (s.2.length+1 - 1)=zs s.2;exact List.take_of_length_le (by rw[a5x];omega)
  rw[e8]) hK
 exact key
theorem reI_outer {M:List (List Q3)} (hM:isM M) {K:Nat} (hK:M.length<K):∀(f k:Nat) (sn:List Bool) (td:List Nat),Bok M.length (sn,td)->td.length+sn.count false<=f->f<k->f<=1000000->loopP (P.c5f K) k (zs td,mp B32 M,sn,())=some (bfs (adj M) M.length f sn td,()):=by
 intro f
 induction f with
 |zero=>
  intro k sn td hb hm hk hf;cases k with
  |zero=>omega
  |succ k=>
   have:td=[]:=List.eq_nil_of_length_eq_zero (by omega);subst this;rw[a0l];rfl
 |succ f ih=>
  intro k sn td hb hm hk hf;cases k with
  |zero=>omega
  |succ k=>
   rw[a0l];cases td with
   |nil=>rfl
   |cons i r=>
    have hi:i<M.length:=hb.lt i (List.mem_cons_self ..);have hb':Bok M.length (sn,r):=⟨hb.len,fun t ht=>hb.lt t (List.mem_cons_of_mem _ ht)⟩
    have hm':r.length+sn.count false<=f:=by
     rw[List.length_cons]at hm;omega
    unfold P.c5f;dsimp only;have e1:((zs (i::r)).length:Int)>0:=by rw[a5x,List.length_cons];omega
    have e2:(zs (i::r)).getD 0 0=(i:Int):=rfl;have e3:(0:Int)<=(i:Int):=by omega
    have e4:(i:Int)<((mp B32 M).length:Int):=by rw[a2y];omega
    rw[e2];simp only[e1,e3,e4,decide_true,if_true,Int.toNat_natCast];rw[mp_at hi,List.length_map,(c3e hM hi).1,reI_inner hM hi hb' (by omega) _ hK,bfs];obtain⟨c1,c2⟩:=b8t (a:=adj M i) hb' M.length (Nat.le_refl _);exact ih k _ _ c1 (by
     have:(b5d (adj M i) M.length (sn,r)).2.length+(b5d (adj M i) M.length (sn,r)).1.count false=r.length+sn.count false:=c2;omega) (by omega) (by omega)
open Classical in
def S.b7h (x:((List (List RB))×(Int×Unit))):(Option ((List Bool)×Unit)):=if(∃M,isM M/\x.1=mp B32 M)/\0<=x.2.1/\x.2.1<(x.1.length:Int)then some (b4z (adj (mv B32 x.1)) x.1.length x.2.1.toNat,())else none
theorem S.i_reach_ok (x r) (h:S.b7h x=some r):∃k,P.i_reach k x=some r:=by
 obtain⟨m,s,u⟩:=x;unfold S.b7h at h;dsimp only at h;split at h
 case isFalse=>cases h
 rename_i hc;obtain⟨⟨M,hM,rfl⟩,h0,h1⟩:=hc;cases h;obtain⟨s,rfl⟩:=Int.eq_ofNat_of_zero_le h0;rw[b8s (by decide),a2y]at*;have hs:s<M.length:=by omega
 have hn:=hM.1;refine⟨M.length+1,?_⟩;unfold P.i_reach;dsimp only;have e1:(0:Int)<=(M.length:Int):=by omega
 have e2:(M.length:Int)*1<=281474976710656:=by omega
 have e3:((List.replicate M.length false).length:Int)=(M.length:Int):=by simp
 rw[a2y];simp only[e1,e2,e3,h0,h1,Int.le_refl,decide_true,if_true,Int.toNat_natCast,Nat.zero_add];obtain⟨c1,c2⟩:=d0g hs;exact reI_outer hM (K:=M.length+1) (by omega) M.length (M.length+1) _ [s] c1 (by omega) (by omega) (by omega)
abbrev i_hits.A:=Int×Int×Bool×List Bool×List Bool×RB×List (List RB)×Int×List Int×List RB×Int×Int×List RB×Unit
abbrev i_hits.B:=Int×Int×List Bool×List RB×List (List RB)×List Int×List RB×Unit
abbrev i_hits.C:=Option (List RB×Unit)
abbrev P.b9i (g4:i_hits.B->i_hits.C) (x9:i_hits.A) (g10:i_hits.A->i_hits.C):i_hits.C:=
 (fun(a b i m n:Int) (c:Bool) (d e:List Bool) (f:RB) (h:List (List RB)) (j:List Int) (l o:List RB)=>if decide (a<b)then if c then if decide (0<=a)then if decide (a<(e.length:Int))then if e.getD a.toNat false then if decide (0<=i)then if decide (i<(h.length:Int))then if decide (0<=a)then if decide (a<(List.length (h.getD i.toNat []):Int))then(S.a1l ((f.1,f.2.1,f.2.2),((List.getD (h.getD i.toNat []) a.toNat (false,[],[])).1,(List.getD (h.getD i.toNat []) a.toNat (false,[],[])).2.1,(List.getD (h.getD i.toNat []) a.toNat (false,[],[])).2.2),())).bind fun y11=>g10 (wrap .i64 (a+1),b,true,d,e,(y11.1.1,y11.1.2.1,y11.1.2.2),h,i,j,l,m,n,o,())else none else none else none else none else g10 (wrap .i64 (a+1),b,true,d,e,(f.1,f.2.1,f.2.2),h,i,j,l,m,n,o,())else none else none else if decide (0<=a)then if decide (a<(d.length:Int))then if d.getD a.toNat false then if decide (0<=a)then if decide (a<(e.length:Int))then if decide (0<=a)then if decide (a<(e.length:Int))then if e.getD a.toNat false then if decide (0<=i)then if decide (i<(h.length:Int))then if decide (0<=a)then if decide (a<(List.length (h.getD i.toNat []):Int))then(S.a1l ((f.1,f.2.1,f.2.2),((List.getD (h.getD i.toNat []) a.toNat (false,[],[])).1,(List.getD (h.getD i.toNat []) a.toNat (false,[],[])).2.1,(List.getD (h.getD i.toNat []) a.toNat (false,[],[])).2.2),())).bind fun y12=>g10 (wrap .i64 (a+1),b,e.getD a.toNat false,d,e,(y12.1.1,y12.1.2.1,y12.1.2.2),h,i,j,l,m,n,o,())else none else none else none else none else g10 (wrap .i64 (a+1),b,e.getD a.toNat false,d,e,(f.1,f.2.1,f.2.2),h,i,j,l,m,n,o,())else none else none else none else none else if decide (0<=a)then if decide (a<(e.length:Int))then if e.getD a.toNat false then if decide (0<=i)then if decide (i<(h.length:Int))then if decide (0<=a)then if decide (a<(List.length (h.getD i.toNat []):Int))then(S.a1l ((f.1,f.2.1,f.2.2),((List.getD (h.getD i.toNat []) a.toNat (false,[],[])).1,(List.getD (h.getD i.toNat []) a.toNat (false,[],[])).2.1,(List.getD (h.getD i.toNat []) a.toNat (false,[],[])).2.2),())).bind fun y13=>g10 (wrap .i64 (a+1),b,false,d,e,(y13.1.1,y13.1.2.1,y13.1.2.2),h,i,j,l,m,n,o,())else none else none else none else none else g10 (wrap .i64 (a+1),b,false,d,e,(f.1,f.2.1,f.2.2),h,i,j,l,m,n,o,())else none else none else none else none else if c then if decide (((j.length+(List.length [i]))*8)<=140737488355328)then if decide (((l.length+(List.length [(f.1,f.2.1,f.2.2)]))*56)<=140737488355328)then g4 (wrap .i64 (m+1),n,e,o,h,j++[i],l++[(f.1,f.2.1,f.2.2)],())else none else none else g4 (wrap .i64 (m+1),n,e,o,h,j,l,())) x9.1 x9.2.1 x9.2.2.2.2.2.2.2.1 x9.2.2.2.2.2.2.2.2.2.2.1 x9.2.2.2.2.2.2.2.2.2.2.2.1 x9.2.2.1 x9.2.2.2.1 x9.2.2.2.2.1 x9.2.2.2.2.2.1 x9.2.2.2.2.2.2.1 x9.2.2.2.2.2.2.2.2.1 x9.2.2.2.2.2.2.2.2.2.1 x9.2.2.2.2.2.2.2.2.2.2.2.2.1
abbrev P.b6j (x18:Int×Int×List Int×List RB×List RB×Unit) (g19:Int×Int×List Int×List RB×List RB×Unit->i_hits.C):i_hits.C:=
 (fun(a b:Int) (c:List Int) (d e:List RB)=>if decide (a<b)then if decide (0<=a)then if decide (a<(c.length:Int))then if decide (0<=a)then if decide (a<(e.length:Int))then if decide (0<=(c.getD a.toNat 0))then if decide ((c.getD a.toNat 0)<(d.length:Int))then g19 (wrap .i64 (a+1),b,c,d.set (0+(Int.toNat (c.getD a.toNat 0))) ((e.getD a.toNat (false,[],[])).1,(e.getD a.toNat (false,[],[])).2.1,(e.getD a.toNat (false,[],[])).2.2),e,())else none else none else none else none else none else none else some (d,())) x18.1 x18.2.1 x18.2.2.1 x18.2.2.2.1 x18.2.2.2.2.1
abbrev P.c3i (k:Nat) (x3:i_hits.B) (g4:i_hits.B->i_hits.C):i_hits.C:=
 (fun(a b:Int) (c:List Bool) (d h:List RB) (e:List (List RB)) (f:List Int)=>if decide (a<b)then if decide (0<=a)then if decide (a<(c.length:Int))then if c.getD a.toNat false then(S.a2l (1,())).bind fun y5=>if decide (0<=a)then if decide (a<(d.length:Int))then g4 (wrap .i64 (a+1),b,c,d.set (0+a.toNat) (y5.1.1,y5.1.2.1,y5.1.2.2),e,f,h,())else none else none else(S.b7h (e,a,())).bind fun y6=>(S.a2l (0,())).bind fun y7=>loopP (P.b9i g4) k (0,(e.length:Int),false,y6.1,c,(y7.1.1,y7.1.2.1,y7.1.2.2),e,a,f,h,a,b,d,())else none else none else(S.a9j (e,f,false,())).bind fun y14=>if dup (List.map (fun(y15:Nat×Nat)=>y15.1) (seen (hd0 y14.1.1) 0 y14.1.2))then none else if decide (y14.1.2=(List.length (hd0 y14.1.1)))then(S.b7g (nrm (seen (hd0 y14.1.1) 0 y14.1.2) (in0 y14.1.1),h,())).bind fun y16=>loopP P.b6j k (0,(f.length:Int),f,d,splice h y16.2.2.1 0,())else(S.b7g (nrm (seen (hd0 y14.1.1) 0 y14.1.2) (in0 y14.1.1),h,())).bind fun y20=>loopP P.b6j k (0,(f.length:Int),f,d,splice h y20.2.2.1 0,())) x3.1 x3.2.1 x3.2.2.1 x3.2.2.2.1 x3.2.2.2.2.2.2.1 x3.2.2.2.2.1 x3.2.2.2.2.2.1
def P.i_hits (k:Nat) (x:List (List RB)×List Bool×Unit):i_hits.C:=
 (S.a2l (0,())).bind fun y0=>(S.a0j ([(y0.1.1,y0.1.2.1,y0.1.2.2)],(x.1.length:Int),())).bind fun y1=>loopP (P.c3i k) k (0,(x.1.length:Int),x.2.1,y1.1,x.1,[],[],())
theorem ih_add {a b:Q3} (ha:okq a) (hb:okq b):S.a1l (((rp B32 a).1,(rp B32 a).2.1,(rp B32 a).2.2),((rp B32 b).1,(rp B32 b).2.1,(rp B32 b).2.2),())=some (rp B32 (b4b a b),()):=by
 show S.a1l (rp B32 _,rp B32 _,())=_;unfold S.a1l;dsimp only;rw[if_pos ⟨b8e (by decide) ha,b8e (by decide) hb⟩,a3q a0e,a3q a0e]
theorem ih_inner {M:List (List Q3)} (h:b2a M) {tg:Nat->Bool} {i:Nat} (hi:i<M.length) (hti:tg i=false) (L:List Nat) (hL:L.length<=12) (R:List (Bool×(List Int×List Int))) (hR:R.length<=12) (O:List (Bool×(List Int×List Int))) (g) {K:Nat} (hK:12<K):
  loopP (P.b9i g) K ((0:Int),(M.length:Int),false,b4z (adj M) M.length i,tab M.length tg,rp B32 a0q,mp B32 M,(i:Int),zs L,R,(i:Int),(M.length:Int),O,())=g (((i+1:Nat):Int),(M.length:Int),tab M.length tg,O,mp B32 M,zs (L++if inC M tg i=true then [i]else []),R++(if inC M tg i=true then [rp B32 (toQ M tg i M.length)]else []),()):=by
 have hI:=h.2.1;have hn:=hI.1;have key:=a0f (k:=K) (b:=P.b9i g) (n:=M.length) (st:=fun j=>((j:Int),(M.length:Int),(List.range j).any (fun j=>rcB M i j&&tg j),b4z (adj M) M.length i,tab M.length tg,rp B32 (toQ M tg i j),mp B32 M,(i:Int),zs L,R,(i:Int),(M.length:Int),O,())) (F:=fun _=>g (((i+1:Nat):Int),(M.length:Int),tab M.length tg,O,mp B32 M,zs (L++if inC M tg i=true then [i]else []),R++(if inC M tg i=true then [rp B32 (toQ M tg i M.length)]else []),())) (fun j g' hj hg=>by
  unfold P.b9i;dsimp only at hg ⊢;have e1:(j:Int)<(M.length:Int):=by omega
  have e2:(0:Int)<=(j:Int):=by omega
  have e3:(0:Int)<=(i:Int):=by omega
  have e4:(i:Int)<(M.length:Int):=by omega
  have e8:((mp B32 M).getD i []).getD j (false,(([]:List Int),([]:List Int)))=rp B32 (mq M i j):=d2m hI hi hj;have e9:(b4z (adj M) M.length i).length=M.length:=c7s hi;have e10:(b4z (adj M) M.length i).getD j false=rcB M i j:=rfl;have e11:(tab M.length tg).getD j false=tg j:=a8j _ _ hj;have ea:=ih_add (toQ_ok h (tg:=tg) hi (k:=j) (by omega)) (okq_200 ⟨(c1k h hi hj).1,(c1k h hi hj).2.1⟩);have hs:toQ M tg i (j+1)=if tg j=true then b4b (toQ M tg i j) (mq M i j)else toQ M tg i j:=rfl
  rw[any_succ,hs]at hg;simp only[Int.toNat_natCast,a2y,d2n hI hi,a0s,e1,e2,e3,e4,e8,e9,e10,e11,decide_true,if_true];rw[wr (by omega) (by omega)];generalize (List.range j).any (fun j=>rcB M i j&&tg j)=can at*;cases ht:tg j
  ·rw[ht,if_neg (by decide),Bool.and_false,Bool.or_false]at hg;cases can
   ·rw[if_neg (by decide)];cases hr:rcB M i j
    ·rw[if_neg (by decide),if_neg (by decide)];exact hg
    ·rw[if_pos rfl,if_neg (by decide)];exact hg
   ·rw[if_pos rfl,if_neg (by decide)];exact hg
  ·rw[ht,if_pos rfl,Bool.and_true]at hg;cases can
   ·rw[Bool.false_or]at hg;rw[if_neg (by decide)];cases hr:rcB M i j
    ·rw[hr]at hg;rw[if_neg (by decide),if_pos rfl,ea,Option.bind_some];exact hg
    ·rw[hr]at hg;rw[if_pos rfl,if_pos rfl,ea,Option.bind_some];exact hg
   ·rw[Bool.true_or]at hg;rw[if_pos rfl,if_pos rfl,ea,Option.bind_some];exact hg) (fun g'=>by
  unfold P.b9i;dsimp only;have e1:((zs L).length+1)*8<=140737488355328:=by rw[a5x];omega
  have e2:(R.length+1)*56<=140737488355328:=by omega
  have hc:inC M tg i=(List.range M.length).any (fun j=>rcB M i j&&tg j):=by
   unfold inC;rw[hti];rfl
  rw[if_neg (by simp),wr (by omega) (by omega),hc];simp only[List.length_cons,List.length_nil,Nat.zero_add,e1,e2,decide_true,if_true];cases(List.range M.length).any (fun j=>rcB M i j&&tg j)
  ·simp only[Bool.false_eq_true,if_false,List.append_nil];rfl
  ·simp only[if_true,c0o];rfl) (by omega)
 exact key
open Classical in
def S.d7e (x:((List (List RB))×((List Bool)×Unit))):(Option ((List RB)×Unit)):=if ∃M,b2a M/\x.1=mp B32 M/\x.2.1.length=M.length then some ((e2w (mv B32 x.1) fun j=>x.2.1.getD j false).map (rp B32),())else none
theorem S.i_hits_ok (x r) (h:S.d7e x=some r):∃k,P.i_hits k x=some r:=by
 obtain⟨m,T,u⟩:=x;unfold S.d7e at h;dsimp only at h;split at h
 case isFalse=>cases h
 rename_i hc;obtain⟨M,hM,rfl,hT⟩:=hc;rw[b8s (by decide)]at h;have hTt:T=tab M.length fun j=>T.getD j false:=by
  rw[<-hT];exact tab_of T false
 generalize (fun j=>T.getD j false)=tg at*;subst hTt;cases h;have hI:=hM.2.1;have hn:=hI.1;refine⟨13,?_⟩;unfold P.i_hits;dsimp only;have hz:S.a2l (0,())=some (rp B32 a0q,()):=by rfl
 have ho:S.a2l (1,())=some (rp B32 a6j,()):=by rfl
 have er:S.a0j ([((rp B32 a0q).1,(rp B32 a0q).2.1,(rp B32 a0q).2.2)],(M.length:Int),())=some (List.replicate M.length (rp B32 a0q),()):=by
  unfold S.a0j;dsimp only;rw[if_pos ⟨rfl,by omega,by omega⟩,Int.toNat_natCast];rfl
 rw[hz,Option.bind_some];dsimp only;rw[a2y,er,Option.bind_some];have hlen:∀i,(fl (inC M tg) i).length<=i:=fun i=>b8c _ i
 have key:=a0f (k:=13) (b:=P.c3i 13) (n:=M.length) (st:=fun i=>((i:Int),(M.length:Int),tab M.length tg,(tab M.length fun j=>if j<i/\tg j=true then a6j else a0q).map (rp B32),mp B32 M,zs (fl (inC M tg) i),((fl (inC M tg) i).map fun j=>toQ M tg j M.length).map (rp B32),())) (F:=fun _=>some ((e2w M tg).map (rp B32),())) (fun i g hi hg=>by
  unfold P.c3i;dsimp only at hg ⊢;have e1:(i:Int)<(M.length:Int):=by omega
  have e2:(0:Int)<=(i:Int):=by omega
  have e11:(tab M.length tg).getD i false=tg i:=a8j _ _ hi;have hli:=hlen i;simp only[Int.toNat_natCast,a0s,List.length_map,e1,e2,e11,decide_true,if_true];rw[b8u]at hg;cases ht:tg i
  ·rw[if_neg (by decide)];have eR:S.b7h (mp B32 M,(i:Int),())=some (b4z (adj M) M.length i,()):=by
    unfold S.b7h;dsimp only;rw[if_pos ⟨⟨M,hI,rfl⟩,by omega,by rw[a2y];omega⟩,b8s (by decide),a2y,Int.toNat_natCast]
   rw[eR,Option.bind_some,hz,Option.bind_some];dsimp only;have hin:=ih_inner hM hi ht (fl (inC M tg) i) (by omega) (((fl (inC M tg) i).map fun j=>toQ M tg j M.length).map (rp B32)) (by rw[List.length_map,List.length_map];omega) ((tab M.length fun j=>if j<i/\tg j=true then a6j else a0q).map (rp B32)) g (K:=13) (by decide);have h1:(tab M.length fun j=>if j<i/\tg j=true then a6j else a0q)=tab M.length fun j=>if j<i+1/\tg j=true then a6j else a0q:=a0p fun j hj=>by
    by_cases q:j<i/\tg j=true
    ·rw[if_pos q,if_pos ⟨by omega,q.2⟩]
    ·rw[if_neg q]
     by_cases q2:j<i+1/\tg j=true
     ·have:j=i:=by
       have:=q2.1;apply Classical.byContradiction;intro z;exact q ⟨by omega,q2.2⟩
      rw[this]at q2;rw[ht]at q2;exact absurd q2.2 (by decide)
     ·rw[if_neg q2]
   have h2:((fl (inC M tg) i++if inC M tg i=true then [i]else []).map fun j=>toQ M tg j M.length).map (rp B32)=((fl (inC M tg) i).map fun j=>toQ M tg j M.length).map (rp B32)++(if inC M tg i=true then [rp B32 (toQ M tg i M.length)]else []):=by
    rw[List.map_append,List.map_append];congr 1;split<;>rfl
   rw[a2y];refine Eq.trans hin ?_;rw[<-hg,h1,h2]
  ·have hcf:inC M tg i=false:=by
    unfold inC;rw[ht];rfl
   rw[hcf,if_neg (by decide),List.append_nil]at hg;rw[if_pos rfl,ho,Option.bind_some,Nat.zero_add,wr (by omega) (by omega)];show g (_,_,_,((tab M.length _).map (rp B32)).set i (rp B32 a6j),_)=_;have h1:(tab M.length fun j=>if j=i then a6j else if j<i/\tg j=true then a6j else a0q)=tab M.length fun j=>if j<i+1/\tg j=true then a6j else a0q:=a0p fun j hj=>by
    by_cases q:j=i
    ·rw[if_pos q,q,if_pos ⟨by omega,ht⟩]
    ·rw[if_neg q]
     by_cases q2:j<i/\tg j=true
     ·rw[if_pos q2,if_pos ⟨by omega,q2.2⟩]
     ·rw[if_neg q2,if_neg (fun z=>q2 ⟨by omega,z.2⟩)]
   rw[c9y,h1];exact hg) (fun g=>by
  unfold P.c3i;dsimp only;have hsol:=hi_sol hM tg;have eL:S.a9j (mp B32 M,zs (fl (inC M tg) M.length),false,())=some ((om B32 (fl (inC M tg) M.length).length (fl (inC M tg) M.length).length (hiA M tg),(fl (inC M tg) M.length).length),()):=by
   unfold S.a9j;dsimp only;rw[if_pos ⟨M,hM,rfl,by rw[c6p]⟩,b8s (by decide),a5x,e0l (d:=inC M tg) c6p];have:om B32 (fl (inC M tg) M.length).length (fl (inC M tg) M.length).length (hA M false (inC M tg) fun _=>a0q)=om B32 (fl (inC M tg) M.length).length (fl (inC M tg) M.length).length (hiA M tg):=b5r fun a ha b hb=>by
    unfold hiA;rw[hA_at _ _ _ _ hb,hA_at _ _ _ _ hb]
   rw[this]
  have eR:((fl (inC M tg) M.length).map fun j=>toQ M tg j M.length).map (rp B32)=rtN (hiA M tg) (fl (inC M tg) M.length).length:=by
   unfold rtN;rw[fl_tab];congr 1;apply a0p;intro a ha;unfold hiA hA;rw[if_pos rfl]
  rw[if_neg (by simp),eL,Option.bind_some];dsimp only;rw[e2k,a1d,if_neg (by decide),a0t,a4h,if_pos (by simp),e2l,List.take_of_length_le (by rw[a4h];exact Nat.le_refl _),eR,solve_i hsol,Option.bind_some];dsimp only;have hsp:splice (rtN (hiA M tg) (fl (inC M tg) M.length).length) ((tab (fl (inC M tg) M.length).length (b8b (hiA M tg) (fl (inC M tg) M.length).length)).map (rp B32)) 0=(tab (fl (inC M tg) M.length).length (b8b (hiA M tg) (fl (inC M tg) M.length).length)).map (rp B32):=by
   unfold splice rtN;simp [a0s]
  rw[hsp,a5x];have key2:=a0f (k:=13) (b:=P.b6j) (n:=(fl (inC M tg) M.length).length) (st:=fun a=>((a:Int),((fl (inC M tg) M.length).length:Int),zs (fl (inC M tg) M.length),(puts M.length (inC M tg) (b8b (hiA M tg) (fl (inC M tg) M.length).length) (fun j=>if tg j=true then a6j else a0q) a).map (rp B32),(tab (fl (inC M tg) M.length).length (b8b (hiA M tg) (fl (inC M tg) M.length).length)).map (rp B32),())) (F:=fun _=>some ((e2w M tg).map (rp B32),())) (fun a g' ha hg=>by
   unfold P.b6j;dsimp only at hg ⊢;obtain⟨q1,q2⟩:=b9c ha;have hlM:=hlen M.length;have e1:(a:Int)<((fl (inC M tg) M.length).length:Int):=by omega
   have e2:(0:Int)<=(a:Int):=by omega
   have e5:(0:Int)<=(((fl (inC M tg) M.length).getD a 0:Nat):Int):=by omega
   have e6:(((fl (inC M tg) M.length).getD a 0:Nat):Int)<(M.length:Int):=by omega
   simp only[a5x,b6e,Int.toNat_natCast,List.length_map,a0s,e0h,a4s ha,Nat.zero_add,e1,e2,e5,e6,decide_true,if_true];rw[wr (by omega) (by omega)];rw[<-e0g ha]at hg;exact hg) (fun g'=>by
   unfold P.b6j;dsimp only;rw[if_neg (by simp),e0f];rfl) (by have:=hlen M.length;omega)
  refine Eq.trans ?_ key2;rw[d2o];have:(tab M.length fun j=>if j<M.length/\tg j=true then a6j else a0q)=tab M.length fun j=>if tg j=true then a6j else a0q:=a0p fun j hj=>by
   by_cases q:tg j=true
   ·rw[if_pos ⟨hj,q⟩,if_pos q]
   ·rw[if_neg (fun z=>q z.2),if_neg q]
  rw[this];rfl) (by omega)
 refine Eq.trans ?_ key;have:(tab M.length fun j=>if j<0/\tg j=true then a6j else a0q).map (rp B32)=List.replicate M.length (rp B32 a0q):=by
  rw[c6n,a8q];apply a0p;intro j hj;rw[if_neg (by omega)]
 rw[this];rfl
def S.b4i (x:(ByteArray×(ByteArray×Unit))):(Option ((ByteArray×(ByteArray×Bool))×Unit)):=if x.1.size<4294967281 then some ((⟨(Go.Lib.cut x.1.data.toList x.2.1.data.toList).1.toArray⟩,(⟨(Go.Lib.cut x.1.data.toList x.2.1.data.toList).2.1.toArray⟩,(Go.Lib.cut x.1.data.toList x.2.1.data.toList).2.2)),())else none
def S.a6x (x:(ByteArray×(ByteArray×Unit))):(Option ((ByteArray×Bool)×Unit)):=some ((⟨(Go.Lib.trimPrefix x.1.data.toList x.2.1.data.toList).toArray⟩,Go.Lib.hasPrefix x.1.data.toList x.2.1.data.toList),())
def S.a3o (x:(ByteArray×(Int×(Int×Unit)))):(Option ((Int×Bool)×Unit)):=if x.2.1=10/\x.2.2.1=64/\x.1.size<=281474976710656 then some (match Go.Lib.parseUintB 64 x.1.data.toList with| .ok v=>(((v:Nat):Int),false)| .«syntax» =>(0,true)| .range=>(18446744073709551615,true),())else none
abbrev i_readNat.A:=Int×Int×ByteArray×List Int×Unit
abbrev i_readNat.B:=Option ((List Int×Bool)×Unit)
abbrev P.a6k (g5:ByteArray×List Int×Unit->i_readNat.B) (x8:Int×Int×Int×List Int×Int×ByteArray×Int×Unit) (g9:Int×Int×Int×List Int×Int×ByteArray×Int×Unit->i_readNat.B):i_readNat.B:=
 (fun(a b c e h:Int) (d:List Int) (f:ByteArray)=>if decide (a<b)then g9 (wrap .i64 (a+1),b,wrap .u64 (c*10),d,e,f,h,())else(S.a2v (c,())).bind fun y10=>(S.a2n (d,y10.1,())).bind fun y11=>(S.a2v (e,())).bind fun y12=>(S.a9r (y11.1,y12.1,())).bind fun y13=>if decide (0<=(f.size:Int))then if decide ((f.size:Int)<=(f.size:Int))then if decide (0<=h)then if decide (h<=(f.size:Int))then g5 (ByteArray.extract f h.toNat (Int.toNat (f.size:Int)),y13.1,())else none else none else none else none) x8.1 x8.2.1 x8.2.2.1 x8.2.2.2.2.1 x8.2.2.2.2.2.2.1 x8.2.2.2.1 x8.2.2.2.2.2.1
abbrev P.a8t (k:Nat) (x4:ByteArray×List Int×Unit) (g5:ByteArray×List Int×Unit->i_readNat.B):i_readNat.B:=
 if ! ((ByteArray.toList x4.1)==(ByteArray.toList (bs [])))then if(Int.tmod (x4.1.size:Int) 9)==0 then if decide (9<=(x4.1.size:Int))then(S.a3o (ByteArray.extract x4.1 0 9,10,64,())).bind fun y6=>loopP (P.a6k g5) k (0,9,1,x4.2.1,y6.1.1,x4.1,9,())else none else if decide (0<=(Int.tmod (x4.1.size:Int) 9))then if decide ((Int.tmod (x4.1.size:Int) 9)<=(x4.1.size:Int))then if decide (0<=(Int.tmod (x4.1.size:Int) 9))then(S.a3o (ByteArray.extract x4.1 0 (Int.toNat (Int.tmod (x4.1.size:Int) 9)),10,64,())).bind fun y14=>loopP (P.a6k g5) k (0,Int.tmod (x4.1.size:Int) 9,1,x4.2.1,y14.1.1,x4.1,Int.tmod (x4.1.size:Int) 9,())else none else none else none else some ((x4.2.1,true),())
abbrev P.a8u (k:Nat) (x1:i_readNat.A) (g2:i_readNat.A->i_readNat.B):i_readNat.B:=
 if decide (x1.1<x1.2.1)then if decide (0<=x1.1)then if decide (x1.1<(x1.2.2.1.size:Int))then if decide ((a2e x1.2.2.1 x1.1)<48)then some (([],false),())else if decide (0<=x1.1)then if decide (x1.1<(x1.2.2.1.size:Int))then if decide ((a2e x1.2.2.1 x1.1)>57)then some (([],false),())else g2 (wrap .i64 (x1.1+1),x1.2.1,x1.2.2.1,x1.2.2.2.1,())else none else none else none else none else loopP (P.a8t k) k (x1.2.2.1,x1.2.2.2.1,())
abbrev P.c3j (k:Nat) (x23:i_readNat.A) (g24:i_readNat.A->i_readNat.B):i_readNat.B:=
 (fun(a b:Int) (c:ByteArray) (d:List Int)=>if decide (a<b)then if decide (0<=a)then if decide (a<(c.size:Int))then if decide ((a2e c a)<48)then some (([],false),())else if decide (0<=a)then if decide (a<(c.size:Int))then if decide ((a2e c a)>57)then some (([],false),())else g24 (wrap .i64 (a+1),b,c,d,())else none else none else none else none else loopP (P.a8t k) k (c,d,())) x23.1 x23.2.1 x23.2.2.1 x23.2.2.2.1
def P.d0n (k:Nat) (x:ByteArray×Unit):i_readNat.B:=
 if(ByteArray.toList x.1)==(ByteArray.toList (bs []))then some (([],false),())else if decide ((x.1.size:Int)>200)then some (([],false),())else if decide (0<(x.1.size:Int))then if(a2e x.1 0)==48 then if decide ((x.1.size:Int)>1)then some (([],false),())else loopP (P.a8u k) k (0,(x.1.size:Int),x.1,[],())else loopP (P.c3j k) k (0,(x.1.size:Int),x.1,[],())else none
theorem rn_len {p m:Nat} (h:p<10^m):(nd B32 p).length<=m:=by
 rw[a4j a0e];exact Nat.lt_of_lt_of_le h (Nat.pow_le_pow_left (by decide) _)
theorem rn_times (g) (t:ByteArray) (p v n:Nat) (hn:n<=9) (hv:v<10^n) (hp:p<10^200) (hnl:n<=t.size) (K:Nat) (hK:n<K):
  loopP (P.a6k g) K ((0:Int),((n:Int),((1:Int),(nd B32 p,((v:Int),(t,((n:Int),())))))))=g (ByteArray.extract t n t.size,(nd B32 (p*10^n+v),())):=by
 have hp9:10^n<=10^9:=Nat.pow_le_pow_right (by decide) hn;have h9:(10:Nat)^9=1000000000:=by decide
 have key:=a0f (k:=K) (b:=P.a6k g) (n:=n) (st:=fun i=>((i:Int),(n:Int),((10^i:Nat):Int),nd B32 p,(v:Int),t,(n:Int),())) (F:=fun i=>g (ByteArray.extract t n t.size,(nd B32 (p*10^n+v),()))) (fun i g' hi hg'=>by
  unfold P.a6k;dsimp only at hg' ⊢;refine Eq.trans ?_ hg';have e1:(i:Int)<(n:Int):=by omega
  have hpi:10^(i+1)<=10^9:=Nat.pow_le_pow_right (by decide) (by omega);rw[Nat.pow_succ]at hpi ⊢;rw[if_pos (decide_eq_true e1),wr (by omega) (by omega),show((10^i:Nat):Int)*10=((10^i*10:Nat):Int) by omega,wu (by omega) (by omega)];rfl) (fun g'=>by
  unfold P.a6k;dsimp only;rw[if_neg (by simp)];unfold S.a2v S.a2n S.a9r;dsimp only;have hl1:=rn_len hp;have hl2:=rn_len (p:=10^n) (m:=10) (by omega);have hl3:(nd B32 (p*10^n)).length<=209:=rn_len (by
   have:p*10^n<10^200*10^9:=Nat.mul_lt_mul_of_lt_of_le hp hp9 (Nat.pow_pos (by decide));rwa [<-Nat.pow_add]at this)
  have hl4:=rn_len (p:=v) (m:=9) (by omega);rw[if_pos ⟨by omega,by omega⟩,Option.bind_some,Int.toNat_natCast];dsimp only;rw[if_pos ⟨a3w a0e _,a3w a0e _,by omega,by omega⟩,Option.bind_some,if_pos ⟨by omega,by omega⟩,Option.bind_some,Int.toNat_natCast];dsimp only;rw[a0i a0e,a0i a0e,if_pos ⟨a3w a0e _,a3w a0e _,by omega,by omega⟩,Option.bind_some,a0i a0e,a0i a0e];have c1:(0:Int)<=(t.size:Int):=by omega
  have c2:(0:Int)<=(n:Int):=by omega
  have c3:(n:Int)<=(t.size:Int):=by omega
  rw[if_pos (decide_eq_true c1),if_pos (decide_eq_true (Int.le_refl _)),if_pos (decide_eq_true c2),if_pos (decide_eq_true c3),Int.toNat_natCast,Int.toNat_natCast]) hK
 exact key
theorem rn_loop (K:Nat) (hK:10<=K) (m:Nat):∀(t:ByteArray) (p k:Nat),t.data.toList.length=m->c0l t.data.toList=true->m<=200->p<10^(200 - m)->m<k->
  loopP (P.a8t K) k (t,(nd B32 p,()))=some ((nd B32 (p*10^m+dv t.data.toList),true),()):=by
 induction m using Nat.strongRecOn with
 |ind m ih=>
  intro t p k hm hd hm2 hp hk;obtain⟨k,rfl⟩:∃j,k=j+1:=⟨k - 1,by omega⟩
  rw[a0l];have hs:t.size=t.data.toList.length:=by rw[Array.length_toList];rfl
  have hstep:∀n:Nat,0<n->n<=9->n<=m->Option.bind (S.a3o (ByteArray.extract t 0 n,(10,(64,())))) (fun(y6:((Int×Bool)×Unit))=>(Go.Cm.loopP (P.a6k (loopP (P.a8t K) k)) K ((0:Int),((n:Int),((1:Int),(nd B32 p,(y6.1.1,(t,((n:Int),())))))))))=some ((nd B32 (p*10^m+dv t.data.toList),true),()):=by
   intro n hn0 hn9 hnm;have hx:(ByteArray.extract t 0 n).data.toList=t.data.toList.take n:=by rw[e2h,List.drop_zero]
   have hxl:(t.data.toList.take n).length=n:=by simp;omega
   have hxs:(ByteArray.extract t 0 n).size=n:=by
    have:(ByteArray.extract t 0 n).size=(ByteArray.extract t 0 n).data.toList.length:=by rw[Array.length_toList];rfl
    rw[this,hx,hxl]
   have hdx:=d4c hd n;have hpar:=parse_dv (t.data.toList.take n) hdx (by intro q;rw[q]at hxl;simp at hxl;omega) (by omega);unfold S.a3o;dsimp only;rw[if_pos ⟨rfl,rfl,by omega⟩,hx,hpar,Option.bind_some];dsimp only;have hv:=dv_lt hdx;rw[hxl]at hv;have hp200:p<10^200:=Nat.lt_of_lt_of_le hp (Nat.pow_le_pow_right (by decide) (by omega));rw[rn_times _ t p _ n hn9 hv hp200 (by omega) K (by omega)];have hd2:(ByteArray.extract t n t.size).data.toList=t.data.toList.drop n:=by
    rw[e2h,List.take_of_length_le (by omega)]
   have hl2:(t.data.toList.drop n).length=m - n:=by simp;omega
   have hb:p*10^n+dv (t.data.toList.take n)<10^(200 - (m - n)):=by
    have h1:(p+1)*10^n<=10^(200 - m)*10^n:=Nat.mul_le_mul_right _ hp;rw[<-Nat.pow_add,show 200 - m+n=200 - (m - n) by omega,Nat.add_mul,Nat.one_mul]at h1;omega
   rw[ih (m - n) (by omega) _ _ k (by rw[hd2,hl2]) (by rw[hd2];exact c4s hd n) (by omega) hb (by omega),hd2];have h3:=c4r (t.data.toList.take n) (t.data.toList.drop n);rw[List.take_append_drop,hl2]at h3;rw[h3,Nat.add_mul,Nat.mul_assoc,<-Nat.pow_add,show n+(m - n)=m by omega,Nat.add_assoc]
  generalize loopP (P.a8t K) k=G at hstep ⊢;unfold P.a8t;dsimp only;have hbs:ByteArray.toList (bs [])=[]:=by rw[ByteArray.toList_eq];rfl
  rw[hbs,ByteArray.toList_eq,hs,hm]
  by_cases h0:m=0
  ·subst h0;have:t.data.toList=[]:=List.eq_nil_of_length_eq_zero hm;rw[this,if_neg (by simp),Nat.pow_zero,Nat.mul_one,show dv []=0 from rfl,Nat.add_zero]
  ·have hne:t.data.toList≠ []:=by
    intro q;rw[q]at hm;simp at hm;omega
   have hmod:Int.tmod (m:Int) 9=((m%9:Nat):Int):=by
    rw[Int.tmod_eq_emod_of_nonneg (by omega)];omega
   rw[if_pos (by simpa using hne),hmod]
   by_cases h9:m%9=0
   ·have c1:(9:Int)<=(m:Int):=by omega
    rw[if_pos (by simp [h9]),if_pos (decide_eq_true c1)];exact hstep 9 (by omega) (by omega) (by omega)
   ·have c1:(0:Int)<=((m%9:Nat):Int):=by omega
    have c2:((m%9:Nat):Int)<=(m:Int):=by omega
    rw[if_neg (by simp;omega),if_pos (decide_eq_true c1),if_pos (decide_eq_true c2),if_pos (decide_eq_true c1),Int.toNat_natCast];exact hstep (m%9) (by omega) (by omega) (by omega)
theorem rn_scan (b:Nat->(Int×(Int×(ByteArray×((List Int)×Unit))))->((Int×(Int×(ByteArray×((List Int)×Unit))))->Option (((List Int)×Bool)×Unit))->Option (((List Int)×Bool)×Unit)) (hbb:b=P.a8u) (t:ByteArray) (hl:t.data.toList.length<=200) (K:Nat) (hK:300<=K):
  loopP (b K) K ((0:Int),((t.size:Int),(t,([],()))))=some (if c0l t.data.toList=true then(nd B32 (dv t.data.toList),true)else([],false),()):=by
 subst hbb;have hs:t.size=t.data.toList.length:=by rw[Array.length_toList];rfl
 rw[hs];have hloop:=rn_loop K (by omega) t.data.toList.length t 0 K rfl;generalize hL:t.data.toList=l at*;have key:∀d i k:Nat,i+d=l.length->d<k->c0l (l.take i)=true->loopP (P.a8u K) k ((i:Int),((l.length:Int),(t,(([]:List Int),()))))=some (if c0l l=true then(nd B32 (dv l),true)else([],false),()):=by
  intro d
  induction d with
  |zero=>
   intro i k hi hk hd;obtain⟨k,rfl⟩:∃j,k=j+1:=⟨k - 1,by omega⟩
   have:i=l.length:=by omega
   subst this;rw[List.take_length]at hd;rw[a0l];unfold P.a8u;dsimp only;rw[if_neg (by simp),if_pos hd];have:=hloop hd hl (Nat.pow_pos (by decide)) (by omega);rw[a1v a0e,Nat.zero_mul,Nat.zero_add]at this;exact this
  |succ d ih=>
   intro i k hi hk hd;obtain⟨k,rfl⟩:∃j,k=j+1:=⟨k - 1,by omega⟩
   have hil:i<l.length:=by omega
   rw[a0l];unfold P.a8u;dsimp only;have e1:(i:Int)<(l.length:Int):=by omega
   have e2:(0:Int)<=(i:Int):=by omega
   have hb:a2e t (i:Int)=(l[i].toNat:Int):=by
    unfold a2e;rw[hL,a0o l i _ hil]
   have ha2:c0l (l.take (i+1))=(c0l (l.take i)&&isD l[i]):=by
    rw[<-List.take_append_getElem hil,c3a];simp [c0l]
   have ha3:c0l l=true->isD l[i]=true:=fun q=>decide_eq_true (allD_get q hil)
   rw[hs,hb,wr (x:=(i:Int)+1) (by omega) (by omega)];simp only[e1,e2,decide_true,if_true]
   by_cases c1:48<=l[i].toNat
   ·rw[if_neg (by simp;omega)]
    by_cases c2:l[i].toNat<=57
    ·have:isD l[i]=true:=decide_eq_true ⟨c1,c2⟩;rw[this,Bool.and_true]at ha2;rw[if_neg (by simp;omega)];exact ih (i+1) k (by omega) (by omega) (by rw[ha2];exact hd)
    ·have:isD l[i]=false:=decide_eq_false (fun q=>c2 q.2);rw[if_pos (decide_eq_true (by omega)),if_neg (fun q=>by rw[ha3 q]at this;cases this)]
   ·have:isD l[i]=false:=decide_eq_false (fun q=>c1 q.1);rw[if_pos (decide_eq_true (by omega)),if_neg (fun q=>by rw[ha3 q]at this;cases this)]
 exact key l.length 0 K (by omega) (by omega) rfl
def S.a9l (x:(ByteArray×Unit)):(Option (((List Int)×Bool)×Unit)):=some (if okN x.1.data.toList=true then(nd B32 (dv x.1.data.toList),true)else([],false),())
theorem S.e3i (x r) (h:S.a9l x=some r):∃k,P.d0n k x=some r:=by
 obtain⟨t,u⟩:=x;unfold S.a9l at h;dsimp only at h;refine⟨300,?_⟩;rw[<-h];unfold P.d0n;dsimp only;have hs:t.size=t.data.toList.length:=by rw[Array.length_toList];rfl
 have hbs:ByteArray.toList (bs [])=[]:=by rw[ByteArray.toList_eq];rfl
 rw[hbs,ByteArray.toList_eq];have hscan:=rn_scan P.a8u rfl t;have hscan2:=rn_scan P.c3j rfl t;unfold okN okR
 by_cases h1:t.data.toList=[]
 ·rw[h1,if_pos (by rfl)];rfl
 ·have hpos:0<t.data.toList.length:=List.length_pos_iff.2 h1;rw[if_neg (by simpa using h1),decide_eq_true h1,Bool.true_and,hs]
  by_cases h2:t.data.toList.length<=200
  ·have d2:¬(t.data.toList.length:Int)>200:=by omega
   have d3:(0:Int)<(t.data.toList.length:Int):=by omega
   rw[if_neg (by simpa using d2),if_pos (decide_eq_true d3),decide_eq_true h2,Bool.true_and];have s1:=hscan h2 300 (by omega);have s2:=hscan2 h2 300 (by omega);rw[hs]at s1 s2;have hb:a2e t 0=(t.data.toList[0].toNat:Int):=by
    exact congrArg (fun c:UInt8=>(c.toNat:Int)) (a0o t.data.toList 0 0 hpos)
   have hh:t.data.toList.head? =some t.data.toList[0]:=by
    generalize t.data.toList=l at*;cases l with
    |nil=>simp at h1
    |cons c r=>rfl
   rw[hb,hh]
   by_cases c1:t.data.toList[0]=48
   ·rw[c1,if_pos (by rfl)]
    by_cases h3:t.data.toList.length=1
    ·have d4:¬(t.data.toList.length:Int)>1:=by omega
     rw[if_neg (by simpa using d4),s1,decide_eq_true h3,Bool.true_or,Bool.and_true]
    ·have d4:(t.data.toList.length:Int)>1:=by omega
     rw[if_pos (decide_eq_true d4),decide_eq_false h3,Bool.false_or,decide_eq_false (by simp),Bool.and_false,if_neg (by simp)]
   ·have c2:¬((t.data.toList[0].toNat:Int)=48):=by
     intro q;apply c1;apply UInt8.toNat_inj.1;show _=48;omega
    rw[if_neg (by simpa using c2),s2,decide_eq_true (p:=some t.data.toList[0]≠some 48) (by simpa using c1),Bool.or_true,Bool.and_true]
  ·have d2:(t.data.toList.length:Int)>200:=by omega
   rw[if_pos (decide_eq_true d2),decide_eq_false h2,Bool.false_and,Bool.and_false,if_neg (by simp)]
def P.d0o (k:Nat) (x:ByteArray×Unit):Option ((RB×Bool)×Unit):=
 (S.b4i (x.1,bs [47],())).bind fun y0=>(S.a6x (y0.1.1,bs [45],())).bind fun y1=>(S.a9l (y1.1.1,())).bind fun y2=>if !y2.1.2 then some (((false,[],[]),false),())else if y1.1.2 then if(y2.1.1.length:Int)==0 then some (((false,[],[]),false),())else(S.a2v (1,())).bind fun y3=>if !y0.1.2.2 then some (((y1.1.2,y2.1.1,y3.1),true),())else(S.a9l (y0.1.2.1,())).bind fun y4=>if !y4.1.2 then some (((false,[],[]),false),())else(S.a2v (1,())).bind fun y5=>(S.a1m (y4.1.1,y5.1,())).bind fun y6=>if decide (y6.1<=0)then some (((false,[],[]),false),())else(S.a5s (y2.1.1,y4.1.1,())).bind fun y7=>(S.a2v (1,())).bind fun y8=>(S.a1m (y7.1,y8.1,())).bind fun y9=>if y9.1 != 0 then some (((false,[],[]),false),())else some (((y1.1.2,y2.1.1,y4.1.1),true),())else(S.a2v (1,())).bind fun y10=>if !y0.1.2.2 then some (((y1.1.2,y2.1.1,y10.1),true),())else(S.a9l (y0.1.2.1,())).bind fun y11=>if !y11.1.2 then some (((false,[],[]),false),())else(S.a2v (1,())).bind fun y12=>(S.a1m (y11.1.1,y12.1,())).bind fun y13=>if decide (y13.1<=0)then some (((false,[],[]),false),())else(S.a5s (y2.1.1,y11.1.1,())).bind fun y14=>(S.a2v (1,())).bind fun y15=>(S.a1m (y14.1,y15.1,())).bind fun y16=>if y16.1 != 0 then some (((false,[],[]),false),())else some (((y1.1.2,y2.1.1,y11.1.1),true),())
def S.b6k (x:(ByteArray×Unit)):(Option ((RB×Bool)×Unit)):=if x.1.size<4294967281 then some ((rp B32 (a5v x.1.data.toList).1,(a5v x.1.data.toList).2),())else none
theorem rr_bad:((false,(([]:List Int),([]:List Int))),false)=(rp B32 noQ.1,noQ.2):=by
 unfold noQ rp;dsimp only;rw[a1v a0e]
theorem e3j:S.a2v (1,())=some (nd B32 1,()):=by
 unfold S.a2v;rfl
theorem rr_rest (neg:Bool) (c:List UInt8×List UInt8×Bool) (hok:okN c.1=true) (hn:¬(neg=true/\dv c.1=0)):
  (Option.bind (S.a2v ((1:Int),())) (fun(y10:((List Int)×Unit))=>(if((!c.2.2)=true)then(some (((neg,(nd B32 (dv c.1),y10.1)),true),()))
 else(Option.bind (S.a9l ((⟨c.2.1.toArray⟩:ByteArray),())) (fun(y11:(((List Int)×Bool)×Unit))=>(if((!y11.1.2)=true)then(some (((false,(([]:List Int),([]:List Int))),false),()))
 else(Option.bind (S.a2v ((1:Int),())) (fun(y12:((List Int)×Unit))=>(Option.bind (S.a1m (y11.1.1,(y12.1,()))) (fun(y13:(Int×Unit))=>(if((decide (y13.1<=(0:Int)))=true)then(some (((false,(([]:List Int),([]:List Int))),false),()))
 else(Option.bind (S.a5s (nd B32 (dv c.1),(y11.1.1,()))) (fun(y14:((List Int)×Unit))=>(Option.bind (S.a2v ((1:Int),())) (fun(y15:((List Int)×Unit))=>(Option.bind (S.a1m (y14.1,(y15.1,()))) (fun(y16:(Int×Unit))=>(if((y16.1 != (0:Int))=true)then(some (((false,(([]:List Int),([]:List Int))),false),()))
 else(some (((neg,(nd B32 (dv c.1),y11.1.1)),true),()))))))))))))))))))))=some ((rp B32 (a6g neg c).1,(a6g neg c).2),()):=by
 have hbody:a6g neg c=(if c.2.2=true then(if okN c.2.1=true/\1<dv c.2.1/\Nat.gcd (dv c.1) (dv c.2.1)=1 then((neg,(dv c.1,dv c.2.1)),true)else noQ)else((neg,(dv c.1,1)),true)):=if_pos ⟨hok,hn⟩;rw[e3j,Option.bind_some,rr_bad,hbody];obtain⟨a,b,f⟩:=c;dsimp only at*;cases f
 ·rfl
 ·rw[if_neg (by decide),if_pos rfl];unfold S.a9l;rw[Option.bind_some];dsimp only;cases hb:okN b
  ·have hx:¬((false:Bool)=true/\1<dv b/\Nat.gcd (dv a) (dv b)=1):=fun q=>by cases q.1
   rw[if_neg hx];rfl
  ·have lb:=b6z (B:=B32) (by decide) (c8k hb);have la:=b6z (B:=B32) (by decide) (c8k hok);have e1:S.a1m (nd B32 (dv b),(nd B32 1,()))=some (b1i (dv b) 1,()):=by
    unfold S.a1m;dsimp only;rw[if_pos ⟨a0m a0e _,a0m a0e _,by omega⟩,a0i a0e,a0i a0e]
   have e2:S.a5s (nd B32 (dv a),(nd B32 (dv b),()))=some (nd B32 (Nat.gcd (dv a) (dv b)),()):=by
    unfold S.a5s;dsimp only;rw[if_pos ⟨a0m a0e _,a0m a0e _,by omega,by omega⟩,a0i a0e,a0i a0e]
   show(Option.bind (S.a2v ((1:Int),())) (fun(y12:((List Int)×Unit))=>(Option.bind (S.a1m (nd B32 (dv b),(y12.1,()))) (fun(y13:(Int×Unit))=>(if((decide (y13.1<=(0:Int)))=true)then(some ((rp B32 noQ.1,noQ.2),()))
 else(Option.bind (S.a5s (nd B32 (dv a),(nd B32 (dv b),()))) (fun(y14:((List Int)×Unit))=>(Option.bind (S.a2v ((1:Int),())) (fun(y15:((List Int)×Unit))=>(Option.bind (S.a1m (y14.1,(y15.1,()))) (fun(y16:(Int×Unit))=>(if((y16.1 != (0:Int))=true)then(some ((rp B32 noQ.1,noQ.2),()))
 else(some (((neg,(nd B32 (dv a),nd B32 (dv b))),true),()))))))))))))))=_
   rw[e3j,Option.bind_some];dsimp only;rw[e1,Option.bind_some];dsimp only
   by_cases h1:1<dv b
   ·have hc:¬(b1i (dv b) 1<=0):=by
     have:=(c7k (a:=dv b) (b:=1)).2 h1;omega
    have lg:(nd B32 (Nat.gcd (dv a) (dv b))).length<=200:=Nat.le_trans (a6w a0e (Nat.le_of_dvd (by omega) (Nat.gcd_dvd_right _ _))) lb;have e3:S.a1m (nd B32 (Nat.gcd (dv a) (dv b)),(nd B32 1,()))=some (b1i (Nat.gcd (dv a) (dv b)) 1,()):=by
     unfold S.a1m;dsimp only;rw[if_pos ⟨a0m a0e _,a0m a0e _,by omega⟩,a0i a0e,a0i a0e]
    rw[if_neg (by simpa using hc),e2,Option.bind_some,Option.bind_some];dsimp only;rw[e3,Option.bind_some];dsimp only
    by_cases hg:Nat.gcd (dv a) (dv b)=1
    ·rw[if_neg (by simpa using a5a.2 hg),if_pos ⟨rfl,h1,hg⟩];rfl
    ·rw[if_pos (by simpa using fun q=>hg (a5a.1 q)),if_neg (fun q=>hg q.2.2)]
   ·have hc:b1i (dv b) 1<=0:=by
     have h2:¬(b1i (dv b) 1>0):=fun q=>h1 ((c7k (a:=dv b) (b:=1)).1 q)
     omega
    rw[if_pos (decide_eq_true hc),if_neg (fun q=>h1 q.2.1)]
theorem S.e3k (x r) (h:S.b6k x=some r):∃k,P.d0o k x=some r:=by
 obtain⟨s,u⟩:=x;unfold S.b6k at h;dsimp only at h;split at h
 case isFalse=>cases h
 rename_i hsz;refine⟨0,?_⟩;rw[<-h];unfold P.d0o;dsimp only;have e0:S.b4i (s,(bs [47],()))=some ((⟨(b1m 47 s.data.toList).1.toArray⟩,(⟨(b1m 47 s.data.toList).2.1.toArray⟩,(b1m 47 s.data.toList).2.2)),()):=by
  unfold S.b4i;dsimp only;rw[if_pos hsz,show(bs [47]).data.toList=[47]from rfl,cut_cutP]
 have e1:∀l:List UInt8,S.a6x (⟨l.toArray⟩,(bs [45],()))=some ((⟨(if l.head? =some 45 then l.tail else l).toArray⟩,decide (l.head? =some 45)),()):=by
  intro l;unfold S.a6x Go.Lib.trimPrefix Go.Lib.hasPrefix;dsimp only;rw[show(bs [45]).data.toList=[45]from rfl];cases l with
  |nil=>rfl
  |cons b r=>
   by_cases hb:b=45
   ·subst hb;simp
   ·have hb':¬(45=b):=fun q=>hb q.symm
    have hp:([45].isPrefixOf (b::r))=false:=by
     show((45:UInt8)==b&&([]:List UInt8).isPrefixOf r)=false;rw[show((45:UInt8)==b)=false from beq_eq_false_iff_ne.2 hb',Bool.false_and]
    have hh:¬((b::r).head? =some 45):=by simpa using hb
    rw[hp,if_neg (by decide),if_neg hh,decide_eq_false hh]
 rw[e0,Option.bind_some];dsimp only;rw[e1,Option.bind_some];dsimp only;generalize s.data.toList=l at*;have hcut:∃(neg:Bool) (c:List UInt8×List UInt8×Bool),decide ((b1m 47 l).1.head? =some 45)=neg/\(if(b1m 47 l).1.head? =some 45 then(b1m 47 l).1.tail else(b1m 47 l).1)=c.1/\(b1m 47 l).2.1=c.2.1/\(b1m 47 l).2.2=c.2.2/\a5v l=a6g neg c:=by
  unfold a5v;cases l with
  |nil=>exact⟨false,b1m 47 [],rfl,rfl,rfl,rfl,rfl⟩
  |cons b r=>
   by_cases hb:b=45
   ·subst hb;have hc:b1m 47 (45::r)=(45::(b1m 47 r).1,(b1m 47 r).2.1,(b1m 47 r).2.2):=by rw[c4u,if_neg (by decide)]
    rw[hc];exact⟨true,b1m 47 r,rfl,rfl,rfl,rfl,rfl⟩
   ·have hh:¬((b1m 47 (b::r)).1.head? =some 45):=by
     rw[c4u];split
     ·simp
     ·simpa using hb
    refine⟨false,b1m 47 (b::r),decide_eq_false hh,if_neg hh,rfl,rfl,?_⟩;rw[if_neg (by simpa using hb)]
 obtain⟨neg,c,h1,h2,h3,h4,h5⟩:=hcut;rw[h1,h2,h3,h4,h5];have e2:S.a9l (⟨c.1.toArray⟩,())=some (if okN c.1=true then(nd B32 (dv c.1),true)else([],false),()):=rfl;rw[e2,Option.bind_some];cases hok:okN c.1
 ·have:a6g neg c=noQ:=by
   unfold a6g;rw[if_neg (fun q=>by rw[hok]at q;cases q.1)]
  rw[this,<-rr_bad];rfl
 ·rw[if_pos rfl];dsimp only;rw[if_neg (show ¬((!true)=true) by decide)];have hz:(((nd B32 (dv c.1)).length:Int)==0)=decide (dv c.1=0):=by
   have:=b0h a0e (a0m a0e (dv c.1));rw[a0i a0e]at this
   by_cases h0:dv c.1=0
   ·rw[this.2 h0,h0];rfl
   ·have hne:=fun q=>h0 (this.1 q)
    rw[decide_eq_false h0];simpa using hne
  cases neg
  ·rw[if_neg (by decide)];exact rr_rest false c hok (fun q=>by cases q.1)
  ·rw[if_pos rfl,hz]
   by_cases h0:dv c.1=0
   ·have:a6g true c=noQ:=by
     unfold a6g;rw[if_neg (fun q=>q.2 ⟨rfl,h0⟩)]
    rw[if_pos (decide_eq_true h0),this,<-rr_bad]
   ·rw[if_neg (by simpa using h0)];exact rr_rest true c hok (fun q=>h0 q.2)
abbrev i_rats.A:=Option ((List RB×Bool)×Unit)
abbrev P.c3k (x1:Int×Int×List ByteArray×List RB×Unit) (g2:Int×Int×List ByteArray×List RB×Unit->i_rats.A):i_rats.A:=
 if decide (x1.1<x1.2.1)then if decide (0<=x1.1)then if decide (x1.1<(x1.2.2.1.length:Int))then(S.b6k (x1.2.2.1.getD x1.1.toNat (bs []),())).bind fun y3=>if !y3.1.2 then some (([],false),())else if decide (((x1.2.2.2.1.length+(List.length [(y3.1.1.1,y3.1.1.2.1,y3.1.1.2.2)]))*56)<=140737488355328)then g2 (wrap .i64 (x1.1+1),x1.2.1,x1.2.2.1,x1.2.2.2.1++[(y3.1.1.1,y3.1.1.2.1,y3.1.1.2.2)],())else none else none else none else some ((x1.2.2.2.1,true),())
def P.i_rats (k:Nat) (x:List ByteArray×Unit):i_rats.A:=
 if decide ((x.1.length:Int)>300)then some (([],false),())else loopP P.c3k k (0,(x.1.length:Int),x.1,[],())
open Classical in
def S.e3l (x:((List ByteArray)×Unit)):(Option (((List RB)×Bool)×Unit)):=if okT x.1=true then some (((a2u x.1).1.map (rp B32),(a2u x.1).2),())else none
theorem i_rats_read (s:ByteArray) (h:s.size<=1000000):S.b6k (s,())=some ((rp B32 (a5v s.data.toList).1,(a5v s.data.toList).2),()):=by
 unfold S.b6k;exact if_pos (by dsimp only;omega)
theorem S.i_rats_ok (x r) (h:S.e3l x=some r):∃k,P.i_rats k x=some r:=by
 obtain⟨ls,u⟩:=x;unfold S.e3l at h;dsimp only at h;split at h
 case isFalse=>cases h
 rename_i hc;cases h;refine⟨ls.length+1,?_⟩;unfold P.i_rats a2u;dsimp only
 by_cases hl:(ls.length:Int)>300
 ·rw[if_pos (decide_eq_true hl),if_neg (show ¬(ls.length<=300/\(ls.all fun s=>(a5v s.data.toList).2)=true)from fun z=>by omega)];rfl
 rw[if_neg (by simpa using hl)];have key:=a0f (k:=ls.length+1) (b:=P.c3k) (n:=ls.length) (st:=fun i=>((i:Int),(ls.length:Int),ls,(ls.take i).map (fun s=>rp B32 (a5v s.data.toList).1),())) (F:=fun i=>some (if((ls.drop i).all fun s=>(a5v s.data.toList).2)=true then(ls.map (fun s=>rp B32 (a5v s.data.toList).1),true)else([],false),())) (fun i g hi hg=>by
  unfold P.c3k;dsimp only at hg ⊢;have e1:(i:Int)<(ls.length:Int):=by omega
  have e2:(0:Int)<=(i:Int):=by omega
  simp only[e1,e2,decide_true,if_true];rw[a0o ls i _ hi,i_rats_read _ (okT_get hc hi),Option.bind_some,List.drop_eq_getElem_cons hi,List.all_cons];dsimp only;cases hf:(a5v ls[i].data.toList).2
  ·rw[if_pos (by rfl),if_neg (by simp)]
  ·rw[if_neg (by simp),wr (by omega) (by omega),Bool.true_and,<-hg];have e3:((List.map (fun s:ByteArray=>rp B32 (a5v s.data.toList).1) (ls.take i)).length+1)*56<=140737488355328:=by
    rw[List.length_map,List.length_take];omega
   simp only[List.length_cons,List.length_nil,Nat.zero_add];rw[if_pos (decide_eq_true e3),List.take_add_one,List.getElem?_eq_getElem hi,Option.toList_some,List.map_append];rfl) (fun g=>by
  unfold P.c3k;dsimp only;rw[if_neg (by simp),List.take_length,List.drop_length];rfl) (by omega)
 refine key.trans ?_;rw[List.drop_zero]
 by_cases ha:(ls.all fun s=>(a5v s.data.toList).2)=true
 ·rw[if_pos ha,if_pos (show ls.length<=300/\(ls.all fun s=>(a5v s.data.toList).2)=true from⟨by omega,ha⟩),List.map_map];rfl
 ·rw[if_neg ha,if_neg (fun z=>ha z.2)];rfl
abbrev P.c9w (x2:Int×Int×List RB×RB×RB×Unit) (g3:Int×Int×List RB×RB×RB×Unit->Option (RB×Unit)):Option (RB×Unit):=
 if decide (x2.1<x2.2.1)then if decide (0<=x2.1)then if decide (x2.1<(x2.2.2.1.length:Int))then(S.a1l ((x2.2.2.2.1.1,x2.2.2.2.1.2.1,x2.2.2.2.1.2.2),((x2.2.2.1.getD x2.1.toNat (false,[],[])).1,(x2.2.2.1.getD x2.1.toNat (false,[],[])).2.1,(x2.2.2.1.getD x2.1.toNat (false,[],[])).2.2),())).bind fun y4=>g3 (wrap .i64 (x2.1+1),x2.2.1,x2.2.2.1,(y4.1.1,y4.1.2.1,y4.1.2.2),(x2.2.2.2.2.1.1,x2.2.2.2.2.1.2.1,x2.2.2.2.2.1.2.2),())else none else none else some ((x2.2.2.2.1.1,x2.2.2.2.1.2.1,x2.2.2.2.1.2.2),())
def P.i_sum (k:Nat) (x:List RB×Unit):Option (RB×Unit):=
 (S.a2l (0,())).bind fun y0=>loopP P.c9w k (0,(x.1.length:Int),x.1,(y0.1.1,y0.1.2.1,y0.1.2.2),(false,[],[]),())
open Classical in
def S.i_sum (x:((List RB)×Unit)):(Option (RB×Unit)):=if goodS B32 x.1 then some (rp B32 (b7b (x.1.map (rv B32))),())else none
theorem i_sum_add (a b:Q3) (ha:c3b B32 40000000 (rp B32 a)=true) (hb:c3b B32 40000000 (rp B32 b)=true):S.a1l (rp B32 a,(rp B32 b,()))=some (rp B32 (b4b a b),()):=by
 unfold S.a1l;dsimp only;rw[if_pos ⟨ha,hb⟩,a3q a0e,a3q a0e]
theorem S.i_sum_ok (x r) (h:S.i_sum x=some r):∃k,P.i_sum k x=some r:=by
 obtain⟨xs,u⟩:=x;unfold S.i_sum at h;dsimp only at h;split at h
 case isFalse=>cases h
 rename_i hc;obtain⟨qs,rfl,hlen,hq,hg⟩:=hc;cases h;refine⟨qs.length+1,?_⟩;unfold P.i_sum;have hz:S.a2l (0,())=some (rp B32 a0q,()):=by rfl
 dsimp only;rw[hz,Option.bind_some,b8z a0e,List.length_map];have key:=a0f (k:=qs.length+1) (b:=P.c9w) (n:=qs.length) (st:=fun i=>((i:Int),(qs.length:Int),qs.map (rp B32),rp B32 (b7b (qs.take i)),(false,(([]:List Int),([]:List Int))),())) (F:=fun i=>some (rp B32 (b7b qs),())) (fun i g hi hg'=>by
  unfold P.c9w;dsimp only at hg' ⊢;have e1:(i:Int)<(qs.length:Int):=by omega
  have e2:(0:Int)<=(i:Int):=by omega
  have e3:(i:Int)<((qs.map (rp B32)).length:Int):=by rw[List.length_map];omega
  rw[if_pos (decide_eq_true e1),if_pos (decide_eq_true e2),if_pos (decide_eq_true e3),a0o (qs.map (rp B32)) i _ (by rw[List.length_map];exact hi),List.getElem_map];have ea:=i_sum_add (b7b (qs.take i)) qs[i] (a3y (by decide) (hg i).1 (hg i).2 (by decide)) (a3y (by decide) (hq _ (List.getElem_mem hi)).1 (hq _ (List.getElem_mem hi)).2 (by decide));rw[d4h hi]at ea;show Option.bind (S.a1l (rp B32 (b7b (qs.take i)),(rp B32 qs[i],()))) _=_;rw[ea,Option.bind_some,wr (by omega) (by omega)];exact hg') (fun g=>by
  unfold P.c9w;dsimp only;rw[if_neg (by simp),List.take_length]) (by omega)
 exact key
def P.d0p (k:Nat) (x:RB×Unit):Option (Bool×Unit):=
 (S.a0y ((x.1.1,x.1.2.1,x.1.2.2),())).bind fun y0=>some (decide (y0.1<0),())
def S.b4j (x:(RB×Unit)):(Option (Bool×Unit)):=if c3b B32 40000000 x.1=true then some (x.1.1,())else none
theorem S.e3m (x r) (h:S.b4j x=some r):∃k,P.d0p k x=some r:=by
 obtain⟨x,u⟩:=x;unfold S.b4j at h;dsimp only at h;split at h
 case isFalse=>cases h
 rename_i hc;obtain⟨hr,hl⟩:=a6h.1 hc;obtain⟨n,p,q,rfl,l1,l2⟩:=b0t hr;rw[b9b a0e]at hl;cases h;refine⟨0,?_⟩;unfold P.d0p S.a0y;dsimp only;rw[if_pos (a0m a0e _),a0i a0e,Option.bind_some];dsimp only;have h2:=hl.2.1;dsimp only at h2;unfold e2x;cases n
 ·by_cases hp:p=0
  ·rw[if_pos hp];rfl
  ·rw[if_neg hp];rfl
 ·rw[if_neg (h2 rfl)];rfl
abbrev P.a1w (x1:Int×Int×Unit×List RB×Unit) (g2:Int×Int×Unit×List RB×Unit->Option (Int×Unit)):Option (Int×Unit):=
 if decide (x1.1<x1.2.1)then if decide (0<=x1.1)then if decide (x1.1<(x1.2.2.2.1.length:Int))then(S.b4j (((x1.2.2.2.1.getD x1.1.toNat (false,[],[])).1,(x1.2.2.2.1.getD x1.1.toNat (false,[],[])).2.1,(x1.2.2.2.1.getD x1.1.toNat (false,[],[])).2.2),())).bind fun y3=>if y3.1 then some (x1.1,())else g2 (wrap .i64 (x1.1+1),x1.2.1,(),x1.2.2.2.1,())else none else none else some ((-1:Int),())
def P.a3d (k:Nat) (x:List RB×Unit×Unit):Option (Int×Unit):=
 loopP P.a1w k (0,(x.1.length:Int),(),x.1,())
open Classical in
def S.a1q (x:((List RB)×(Unit×Unit))):(Option (Int×Unit)):=if goodL B32 x.1 then some (ixM x.1,())else none
theorem S.b0l (x r) (h:S.a1q x=some r):∃k,P.a3d k x=some r:=by
 obtain⟨xs,u,u'⟩:=x;unfold S.a1q at h;dsimp only at h;split at h
 case isFalse=>cases h
 rename_i hc;obtain⟨qs,n,rfl,hg⟩:=hc;cases h;have hlen:=e2i hg;refine⟨qs.length+1,?_⟩;unfold P.a3d;dsimp only;have hm:∀i (hi:i<qs.length),S.b4j (rp B32 qs[i],())=some (qs[i].1,()):=by
  intro i hi;unfold S.b4j;dsimp only;rw[if_pos (good_get (by decide) hg hi)];rfl
 have key:=a0f (k:=qs.length+1) (b:=P.a1w) (n:=qs.length) (st:=fun i=>((i:Int),(qs.length:Int),(),qs.map (rp B32),())) (F:=fun i=>some (if ixM ((qs.drop i).map (rp B32))<0 then -1 else ixM ((qs.drop i).map (rp B32))+i,())) (fun i g hi hg'=>by
  unfold P.a1w;dsimp only at hg' ⊢;have e1:(i:Int)<(qs.length:Int):=by omega
  have e2:(0:Int)<=(i:Int):=by omega
  have e3:(i:Int)<((qs.map (rp B32)).length:Int):=by rw[List.length_map];omega
  rw[if_pos (decide_eq_true e1),if_pos (decide_eq_true e2),if_pos (decide_eq_true e3),a0o (qs.map (rp B32)) i _ (by rw[List.length_map];exact hi),List.getElem_map];show Option.bind (S.b4j (rp B32 qs[i],())) _=_;rw[hm i hi,Option.bind_some,List.drop_eq_getElem_cons hi,List.map_cons,e2j];dsimp only;rw[show(rp B32 qs[i]).1=qs[i].1 from rfl];cases hf:qs[i].1
  ·simp only[Bool.false_eq_true,if_false];rw[wr (by omega) (by omega)];refine hg'.trans ?_;congr 2;split
   ·rfl
   ·rw[if_neg (by omega)];omega
  ·simp) (fun g=>by
  unfold P.a1w;dsimp only;rw[if_neg (by simp),List.drop_length];rfl) (by omega)
 rw[List.length_map];refine key.trans ?_;rw[List.drop_zero];congr 2;have hr: -1<=ixM (qs.map (rp B32)):=by
  generalize qs.map (rp B32)=zs
  induction zs with
  |nil=>decide
  |cons z zs ih=>
   rw[e2j];split
   ·omega
   ·split<;>omega
 split<;>omega
def P.a2k (k:Nat) (x:List RB×Unit×Unit):Option (Bool×Unit):=
 (S.a1q (x.1,(),())).bind fun y0=>some (decide (y0.1>=0),())
open Classical in
def S.a0w (x:((List RB)×(Unit×Unit))):(Option (Bool×Unit)):=if goodL B32 x.1 then some (x.1.any fun r=>r.1,())else none
theorem S.a8l (x r) (h:S.a0w x=some r):∃k,P.a2k k x=some r:=by
 obtain⟨xs,u,u'⟩:=x;unfold S.a0w at h;dsimp only at h;split at h
 case isFalse=>cases h
 rename_i hc;cases h;refine⟨0,?_⟩;unfold P.a2k S.a1q;dsimp only;rw[if_pos hc,Option.bind_some,<-ixM_any]
abbrev P.c3l (x2:Int×Int×List RB×RB×RB×Unit) (g3:Int×Int×List RB×RB×RB×Unit->Option (RB×List RB×Unit)):Option (RB×List RB×Unit):=
 (fun(a b:Int) (c:List RB) (d e:RB)=>if decide (a<b)then if decide (0<=a)then if decide (a<(c.length:Int))then(S.a1l ((d.1,d.2.1,d.2.2),((c.getD (0+a.toNat) (false,[],[])).1,(c.getD (0+a.toNat) (false,[],[])).2.1,(c.getD (0+a.toNat) (false,[],[])).2.2),())).bind fun y4=>g3 (wrap .i64 (a+1),b,c,(y4.1.1,y4.1.2.1,y4.1.2.2),(e.1,e.2.1,e.2.2),())else none else none else some ((d.1,d.2.1,d.2.2),c,())) x2.1 x2.2.1 x2.2.2.1 x2.2.2.2.1 x2.2.2.2.2.1
def P.i_summ (k:Nat) (x:List RB×Unit):Option (RB×List RB×Unit):=
 (S.a2l (0,())).bind fun y0=>loopP P.c3l k (0,(x.1.length:Int),x.1,(y0.1.1,y0.1.2.1,y0.1.2.2),(false,[],[]),())
open Classical in
def S.i_summ (x:((List RB)×Unit)):(Option (RB×((List RB)×Unit))):=if goodS B32 x.1 then some (rp B32 (b7b (x.1.map (rv B32))),(x.1,()))else none
theorem i_summ_add (a b:Q3) (ha:c3b B32 40000000 (rp B32 a)=true) (hb:c3b B32 40000000 (rp B32 b)=true):S.a1l (rp B32 a,(rp B32 b,()))=some (rp B32 (b4b a b),()):=by
 unfold S.a1l;dsimp only;rw[if_pos ⟨ha,hb⟩,a3q a0e,a3q a0e]
theorem S.i_summ_ok (x r) (h:S.i_summ x=some r):∃k,P.i_summ k x=some r:=by
 obtain⟨xs,u⟩:=x;unfold S.i_summ at h;dsimp only at h;split at h
 case isFalse=>cases h
 rename_i hc;obtain⟨qs,rfl,hlen,hq,hg⟩:=hc;cases h;refine⟨qs.length+1,?_⟩;unfold P.i_summ;have hz:S.a2l (0,())=some (rp B32 a0q,()):=by rfl
 dsimp only;rw[hz,Option.bind_some,b8z a0e,List.length_map];have key:=a0f (k:=qs.length+1) (b:=P.c3l) (n:=qs.length) (st:=fun i=>((i:Int),(qs.length:Int),qs.map (rp B32),rp B32 (b7b (qs.take i)),(false,(([]:List Int),([]:List Int))),())) (F:=fun i=>some (rp B32 (b7b qs),(qs.map (rp B32),()))) (fun i g hi hg'=>by
  unfold P.c3l;dsimp only at hg' ⊢;have e1:(i:Int)<(qs.length:Int):=by omega
  have e2:(0:Int)<=(i:Int):=by omega
  have e3:(i:Int)<((qs.map (rp B32)).length:Int):=by rw[List.length_map];omega
  rw[if_pos (decide_eq_true e1),if_pos (decide_eq_true e2),if_pos (decide_eq_true e3),Nat.zero_add,a0o (qs.map (rp B32)) i _ (by rw[List.length_map];exact hi),List.getElem_map];have ea:=i_summ_add (b7b (qs.take i)) qs[i] (a3y (by decide) (hg i).1 (hg i).2 (by decide)) (a3y (by decide) (hq _ (List.getElem_mem hi)).1 (hq _ (List.getElem_mem hi)).2 (by decide));rw[d4h hi]at ea;show Option.bind (S.a1l (rp B32 (b7b (qs.take i)),(rp B32 qs[i],()))) _=_;rw[ea,Option.bind_some,wr (by omega) (by omega)];exact hg') (fun g=>by
  unfold P.c3l;dsimp only;rw[if_neg (by simp),List.take_length]) (by omega)
 exact key
end Go.Cm
end
