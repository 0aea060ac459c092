import Derived.Test.YtdpljomfkoojnaaGreatDoorPlLumpChaina
set_option linter.unusedVariables false
set_option maxRecDepth 100000
noncomputable section
namespace Go.Cm
open IntKind (wrap)
abbrev s_l01NatDiv.A:=Int×List Int×Int×Int×List Int×Int×List Int×Int×Unit
abbrev s_l01NatDiv.B:=Int×List Int×Int×List Int×List Int×Int×Unit
abbrev s_l01NatDiv.C:=Option ((List Int×List Int)×Unit)
abbrev P.s_l01NatDiv_b12 (g11:s_l01NatDiv.B->s_l01NatDiv.C) (x13:s_l01NatDiv.A) (g14:s_l01NatDiv.A->s_l01NatDiv.C):s_l01NatDiv.C:=
 (fun(a c d f i:Int) (b e h:List Int)=>if decide (a>=(1000000000:Int))then if decide ((0:Int)<=(IntKind.wrap .i64 (c - (1:Int))))then if decide ((IntKind.wrap .i64 (c - (1:Int)))<(b.length:Int))then if decide ((IntKind.wrap .i64 (d+(b.getD (Int.toNat (IntKind.wrap .i64 (c - (1:Int)))) (0:Int))))>=(1000000000:Int))then(S.s_l01TakeOff (e,b,f,IntKind.wrap .i64 (a - (1:Int)),())).bind fun y15=>if y15.1 then(S.s_l01PutBack (splice e y15.2.1 (0:Nat),b,f,())).bind fun y16=>if decide ((0:Int)<=f)then if decide (f<(h.length:Int))then g11 (IntKind.wrap .i64 (f - (1:Int)),splice (splice e y15.2.1 (0:Nat)) y16.2.1 (0:Nat),c,b,h.set ((0:Nat)+f.toNat) (IntKind.wrap .i64 ((IntKind.wrap .i64 (a - (1:Int))) - (1:Int))),i,())else none else none else if decide ((0:Int)<=f)then if decide (f<(h.length:Int))then g11 (IntKind.wrap .i64 (f - (1:Int)),splice e y15.2.1 (0:Nat),c,b,h.set ((0:Nat)+f.toNat) (IntKind.wrap .i64 (a - (1:Int))),i,())else none else none else g14 (IntKind.wrap .i64 (a - (1:Int)),b,c,IntKind.wrap .i64 (d+(b.getD (Int.toNat (IntKind.wrap .i64 (c - (1:Int)))) (0:Int))),e,f,h,i,())else none else none else if decide ((0:Int)<=(IntKind.wrap .i64 (c - (2:Int))))then if decide ((IntKind.wrap .i64 (c - (2:Int)))<(b.length:Int))then if decide ((0:Int)<=(IntKind.wrap .i64 ((IntKind.wrap .i64 (f+c)) - (2:Int))))then if decide ((IntKind.wrap .i64 ((IntKind.wrap .i64 (f+c)) - (2:Int)))<(e.length:Int))then if decide ((IntKind.wrap .i64 (a*(b.getD (Int.toNat (IntKind.wrap .i64 (c - (2:Int)))) (0:Int))))>(IntKind.wrap .i64 ((IntKind.wrap .i64 (d*(1000000000:Int)))+(e.getD ((0:Nat)+(Int.toNat (IntKind.wrap .i64 ((IntKind.wrap .i64 (f+c)) - (2:Int))))) (0:Int)))))then if decide ((0:Int)<=(IntKind.wrap .i64 (c - (1:Int))))then if decide ((IntKind.wrap .i64 (c - (1:Int)))<(b.length:Int))then if decide ((IntKind.wrap .i64 (d+(b.getD (Int.toNat (IntKind.wrap .i64 (c - (1:Int)))) (0:Int))))>=(1000000000:Int))then(S.s_l01TakeOff (e,b,f,IntKind.wrap .i64 (a - (1:Int)),())).bind fun y17=>if y17.1 then(S.s_l01PutBack (splice e y17.2.1 (0:Nat),b,f,())).bind fun y18=>if decide ((0:Int)<=f)then if decide (f<(h.length:Int))then g11 (IntKind.wrap .i64 (f - (1:Int)),splice (splice e y17.2.1 (0:Nat)) y18.2.1 (0:Nat),c,b,h.set ((0:Nat)+f.toNat) (IntKind.wrap .i64 ((IntKind.wrap .i64 (a - (1:Int))) - (1:Int))),i,())else none else none else if decide ((0:Int)<=f)then if decide (f<(h.length:Int))then g11 (IntKind.wrap .i64 (f - (1:Int)),splice e y17.2.1 (0:Nat),c,b,h.set ((0:Nat)+f.toNat) (IntKind.wrap .i64 (a - (1:Int))),i,())else none else none else g14 (IntKind.wrap .i64 (a - (1:Int)),b,c,IntKind.wrap .i64 (d+(b.getD (Int.toNat (IntKind.wrap .i64 (c - (1:Int)))) (0:Int))),e,f,h,i,())else none else none else(S.s_l01TakeOff (e,b,f,a,())).bind fun y19=>if y19.1 then(S.s_l01PutBack (splice e y19.2.1 (0:Nat),b,f,())).bind fun y20=>if decide ((0:Int)<=f)then if decide (f<(h.length:Int))then g11 (IntKind.wrap .i64 (f - (1:Int)),splice (splice e y19.2.1 (0:Nat)) y20.2.1 (0:Nat),c,b,h.set ((0:Nat)+f.toNat) (IntKind.wrap .i64 (a - (1:Int))),i,())else none else none else if decide ((0:Int)<=f)then if decide (f<(h.length:Int))then g11 (IntKind.wrap .i64 (f - (1:Int)),splice e y19.2.1 (0:Nat),c,b,h.set ((0:Nat)+f.toNat) a,i,())else none else none else none else none else none else none) x13.1 x13.2.2.1 x13.2.2.2.1 x13.2.2.2.2.2.1 x13.2.2.2.2.2.2.2.1 x13.2.1 x13.2.2.2.2.1 x13.2.2.2.2.2.2.1
abbrev P.s_l01NatDiv_b9 (k:Nat) (x10:s_l01NatDiv.B) (g11:s_l01NatDiv.B->s_l01NatDiv.C):s_l01NatDiv.C:=
 (fun(a c f:Int) (b d e:List Int)=>if decide (a>=(0:Int))then if decide ((0:Int)<=(IntKind.wrap .i64 (a+c)))then if decide ((IntKind.wrap .i64 (a+c))<(b.length:Int))then if decide ((0:Int)<=(IntKind.wrap .i64 ((IntKind.wrap .i64 (a+c)) - (1:Int))))then if decide ((IntKind.wrap .i64 ((IntKind.wrap .i64 (a+c)) - (1:Int)))<(b.length:Int))then if decide ((0:Int)<=(IntKind.wrap .i64 (c - (1:Int))))then if decide ((IntKind.wrap .i64 (c - (1:Int)))<(d.length:Int))then if decide ((d.getD (Int.toNat (IntKind.wrap .i64 (c - (1:Int)))) (0:Int))=(0:Int))then none else if decide ((0:Int)<=(IntKind.wrap .i64 (c - (1:Int))))then if decide ((IntKind.wrap .i64 (c - (1:Int)))<(d.length:Int))then if decide ((d.getD (Int.toNat (IntKind.wrap .i64 (c - (1:Int)))) (0:Int))=(0:Int))then none else loopP (P.s_l01NatDiv_b12 g11) k (IntKind.wrap .i64 (Int.tdiv (IntKind.wrap .i64 ((IntKind.wrap .i64 ((b.getD ((0:Nat)+(Int.toNat (IntKind.wrap .i64 (a+c)))) (0:Int))*(1000000000:Int)))+(b.getD ((0:Nat)+(Int.toNat (IntKind.wrap .i64 ((IntKind.wrap .i64 (a+c)) - (1:Int))))) (0:Int)))) (d.getD (Int.toNat (IntKind.wrap .i64 (c - (1:Int)))) (0:Int))),d,c,Int.tmod (IntKind.wrap .i64 ((IntKind.wrap .i64 ((b.getD ((0:Nat)+(Int.toNat (IntKind.wrap .i64 (a+c)))) (0:Int))*(1000000000:Int)))+(b.getD ((0:Nat)+(Int.toNat (IntKind.wrap .i64 ((IntKind.wrap .i64 (a+c)) - (1:Int))))) (0:Int)))) (d.getD (Int.toNat (IntKind.wrap .i64 (c - (1:Int)))) (0:Int)),b,a,e,f,())else none else none else none else none else none else none else none else none else(S.s_l01Trim (b,())).bind fun y21=>(S.s_l01ShortDiv (y21.1,f,())).bind fun y22=>(S.s_l01Trim (e,())).bind fun y23=>some ((y23.1,y22.1.1),())) x10.1 x10.2.2.1 x10.2.2.2.2.2.1 x10.2.1 x10.2.2.2.1 x10.2.2.2.2.1
def P.s_l01NatDiv (k:Nat) (x:List Int×List Int×Unit):s_l01NatDiv.C:=
 (S.s_l01Small (x.1,())).bind fun y0=>(S.s_l01Small (x.2.1,())).bind fun y1=>if y0.1.2 then if y1.1.2 then if decide (y1.1.1=(0:Int))then none else(S.s_l01Nat (IntKind.wrap .i64 (Int.tdiv y0.1.1 y1.1.1),())).bind fun y2=>if decide (y1.1.1=(0:Int))then none else(S.s_l01Nat (Int.tmod y0.1.1 y1.1.1,())).bind fun y3=>some ((y2.1,y3.1),())else(S.s_l01Cmp (x.1,x.2.1,())).bind fun y4=>if decide (y4.1<(0:Int))then if decide ((((0:Nat)+x.1.length)*(8:Nat))<=(140737488355328:Nat))then some ((([]:List Int),([]:List Int)++x.1),())else none else if(x.2.1.length:Int)==(1:Int)then if decide ((0:Int)<(x.2.1.length:Int))then(S.s_l01ShortDiv (x.1,x.2.1.getD (0:Nat) (0:Int),())).bind fun y5=>(S.s_l01Nat (y5.1.2,())).bind fun y6=>some ((y5.1.1,y6.1),())else none else if decide ((0:Int)<=(IntKind.wrap .i64 ((x.2.1.length:Int) - (1:Int))))then if decide ((IntKind.wrap .i64 ((x.2.1.length:Int) - (1:Int)))<(x.2.1.length:Int))then if decide ((IntKind.wrap .i64 ((x.2.1.getD (Int.toNat (IntKind.wrap .i64 ((x.2.1.length:Int) - (1:Int)))) (0:Int))+(1:Int)))=(0:Int))then none else if decide ((0:Int)<=(IntKind.wrap .i64 ((x.1.length:Int)+(1:Int))))then if decide ((IntKind.wrap .i64 ((x.1.length:Int)+(1:Int)))<=(IntKind.wrap .i64 ((x.1.length:Int)+(1:Int))))then if decide (((IntKind.wrap .i64 ((x.1.length:Int)+(1:Int)))*(8:Int))<=(281474976710656:Int))then(S.s_l01ShortMul (x.1,IntKind.wrap .i64 (Int.tdiv (1000000000:Int) (IntKind.wrap .i64 ((x.2.1.getD (Int.toNat (IntKind.wrap .i64 ((x.2.1.length:Int) - (1:Int)))) (0:Int))+(1:Int)))),())).bind fun y7=>(S.s_l01ShortMul (x.2.1,IntKind.wrap .i64 (Int.tdiv (1000000000:Int) (IntKind.wrap .i64 ((x.2.1.getD (Int.toNat (IntKind.wrap .i64 ((x.2.1.length:Int) - (1:Int)))) (0:Int))+(1:Int)))),())).bind fun y8=>if decide ((0:Int)<=(IntKind.wrap .i64 ((List.length (splice (List.replicate (Int.toNat (IntKind.wrap .i64 ((x.1.length:Int)+(1:Int)))) (0:Int)) (List.take (List.length (List.replicate (Int.toNat (IntKind.wrap .i64 ((x.1.length:Int)+(1:Int)))) (0:Int))) y7.1) (0:Nat)):Int) - (y8.1.length:Int))))then if decide ((IntKind.wrap .i64 ((List.length (splice (List.replicate (Int.toNat (IntKind.wrap .i64 ((x.1.length:Int)+(1:Int)))) (0:Int)) (List.take (List.length (List.replicate (Int.toNat (IntKind.wrap .i64 ((x.1.length:Int)+(1:Int)))) (0:Int))) y7.1) (0:Nat)):Int) - (y8.1.length:Int)))<=(IntKind.wrap .i64 ((List.length (splice (List.replicate (Int.toNat (IntKind.wrap .i64 ((x.1.length:Int)+(1:Int)))) (0:Int)) (List.take (List.length (List.replicate (Int.toNat (IntKind.wrap .i64 ((x.1.length:Int)+(1:Int)))) (0:Int))) y7.1) (0:Nat)):Int) - (y8.1.length:Int))))then if decide (((IntKind.wrap .i64 ((List.length (splice (List.replicate (Int.toNat (IntKind.wrap .i64 ((x.1.length:Int)+(1:Int)))) (0:Int)) (List.take (List.length (List.replicate (Int.toNat (IntKind.wrap .i64 ((x.1.length:Int)+(1:Int)))) (0:Int))) y7.1) (0:Nat)):Int) - (y8.1.length:Int)))*(8:Int))<=(281474976710656:Int))then loopP (P.s_l01NatDiv_b9 k) k (IntKind.wrap .i64 ((IntKind.wrap .i64 ((List.length (splice (List.replicate (Int.toNat (IntKind.wrap .i64 ((x.1.length:Int)+(1:Int)))) (0:Int)) (List.take (List.length (List.replicate (Int.toNat (IntKind.wrap .i64 ((x.1.length:Int)+(1:Int)))) (0:Int))) y7.1) (0:Nat)):Int) - (y8.1.length:Int))) - (1:Int)),splice (List.replicate (Int.toNat (IntKind.wrap .i64 ((x.1.length:Int)+(1:Int)))) (0:Int)) (List.take (List.length (List.replicate (Int.toNat (IntKind.wrap .i64 ((x.1.length:Int)+(1:Int)))) (0:Int))) y7.1) (0:Nat),(y8.1.length:Int),y8.1,List.replicate (Int.toNat (IntKind.wrap .i64 ((List.length (splice (List.replicate (Int.toNat (IntKind.wrap .i64 ((x.1.length:Int)+(1:Int)))) (0:Int)) (List.take (List.length (List.replicate (Int.toNat (IntKind.wrap .i64 ((x.1.length:Int)+(1:Int)))) (0:Int))) y7.1) (0:Nat)):Int) - (y8.1.length:Int)))) (0:Int),IntKind.wrap .i64 (Int.tdiv (1000000000:Int) (IntKind.wrap .i64 ((x.2.1.getD (Int.toNat (IntKind.wrap .i64 ((x.2.1.length:Int) - (1:Int)))) (0:Int))+(1:Int)))),())else none else none else none else none else none else none else none else none else(S.s_l01Cmp (x.1,x.2.1,())).bind fun y24=>if decide (y24.1<(0:Int))then if decide ((((0:Nat)+x.1.length)*(8:Nat))<=(140737488355328:Nat))then some ((([]:List Int),([]:List Int)++x.1),())else none else if(x.2.1.length:Int)==(1:Int)then if decide ((0:Int)<(x.2.1.length:Int))then(S.s_l01ShortDiv (x.1,x.2.1.getD (0:Nat) (0:Int),())).bind fun y25=>(S.s_l01Nat (y25.1.2,())).bind fun y26=>some ((y25.1.1,y26.1),())else none else if decide ((0:Int)<=(IntKind.wrap .i64 ((x.2.1.length:Int) - (1:Int))))then if decide ((IntKind.wrap .i64 ((x.2.1.length:Int) - (1:Int)))<(x.2.1.length:Int))then if decide ((IntKind.wrap .i64 ((x.2.1.getD (Int.toNat (IntKind.wrap .i64 ((x.2.1.length:Int) - (1:Int)))) (0:Int))+(1:Int)))=(0:Int))then none else if decide ((0:Int)<=(IntKind.wrap .i64 ((x.1.length:Int)+(1:Int))))then if decide ((IntKind.wrap .i64 ((x.1.length:Int)+(1:Int)))<=(IntKind.wrap .i64 ((x.1.length:Int)+(1:Int))))then if decide (((IntKind.wrap .i64 ((x.1.length:Int)+(1:Int)))*(8:Int))<=(281474976710656:Int))then(S.s_l01ShortMul (x.1,IntKind.wrap .i64 (Int.tdiv (1000000000:Int) (IntKind.wrap .i64 ((x.2.1.getD (Int.toNat (IntKind.wrap .i64 ((x.2.1.length:Int) - (1:Int)))) (0:Int))+(1:Int)))),())).bind fun y27=>(S.s_l01ShortMul (x.2.1,IntKind.wrap .i64 (Int.tdiv (1000000000:Int) (IntKind.wrap .i64 ((x.2.1.getD (Int.toNat (IntKind.wrap .i64 ((x.2.1.length:Int) - (1:Int)))) (0:Int))+(1:Int)))),())).bind fun y28=>if decide ((0:Int)<=(IntKind.wrap .i64 ((List.length (splice (List.replicate (Int.toNat (IntKind.wrap .i64 ((x.1.length:Int)+(1:Int)))) (0:Int)) (List.take (List.length (List.replicate (Int.toNat (IntKind.wrap .i64 ((x.1.length:Int)+(1:Int)))) (0:Int))) y27.1) (0:Nat)):Int) - (y28.1.length:Int))))then if decide ((IntKind.wrap .i64 ((List.length (splice (List.replicate (Int.toNat (IntKind.wrap .i64 ((x.1.length:Int)+(1:Int)))) (0:Int)) (List.take (List.length (List.replicate (Int.toNat (IntKind.wrap .i64 ((x.1.length:Int)+(1:Int)))) (0:Int))) y27.1) (0:Nat)):Int) - (y28.1.length:Int)))<=(IntKind.wrap .i64 ((List.length (splice (List.replicate (Int.toNat (IntKind.wrap .i64 ((x.1.length:Int)+(1:Int)))) (0:Int)) (List.take (List.length (List.replicate (Int.toNat (IntKind.wrap .i64 ((x.1.length:Int)+(1:Int)))) (0:Int))) y27.1) (0:Nat)):Int) - (y28.1.length:Int))))then if decide (((IntKind.wrap .i64 ((List.length (splice (List.replicate (Int.toNat (IntKind.wrap .i64 ((x.1.length:Int)+(1:Int)))) (0:Int)) (List.take (List.length (List.replicate (Int.toNat (IntKind.wrap .i64 ((x.1.length:Int)+(1:Int)))) (0:Int))) y27.1) (0:Nat)):Int) - (y28.1.length:Int)))*(8:Int))<=(281474976710656:Int))then loopP (P.s_l01NatDiv_b9 k) k (IntKind.wrap .i64 ((IntKind.wrap .i64 ((List.length (splice (List.replicate (Int.toNat (IntKind.wrap .i64 ((x.1.length:Int)+(1:Int)))) (0:Int)) (List.take (List.length (List.replicate (Int.toNat (IntKind.wrap .i64 ((x.1.length:Int)+(1:Int)))) (0:Int))) y27.1) (0:Nat)):Int) - (y28.1.length:Int))) - (1:Int)),splice (List.replicate (Int.toNat (IntKind.wrap .i64 ((x.1.length:Int)+(1:Int)))) (0:Int)) (List.take (List.length (List.replicate (Int.toNat (IntKind.wrap .i64 ((x.1.length:Int)+(1:Int)))) (0:Int))) y27.1) (0:Nat),(y28.1.length:Int),y28.1,List.replicate (Int.toNat (IntKind.wrap .i64 ((List.length (splice (List.replicate (Int.toNat (IntKind.wrap .i64 ((x.1.length:Int)+(1:Int)))) (0:Int)) (List.take (List.length (List.replicate (Int.toNat (IntKind.wrap .i64 ((x.1.length:Int)+(1:Int)))) (0:Int))) y27.1) (0:Nat)):Int) - (y28.1.length:Int)))) (0:Int),IntKind.wrap .i64 (Int.tdiv (1000000000:Int) (IntKind.wrap .i64 ((x.2.1.getD (Int.toNat (IntKind.wrap .i64 ((x.2.1.length:Int) - (1:Int)))) (0:Int))+(1:Int)))),())else none else none else none else none else none else none else none else none
theorem nd_tail (g:(Int×((List Int)×(Int×((List Int)×((List Int)×(Int×Unit))))))->(Option (((List Int)×(List Int))×Unit))) (F:Option (((List Int)×(List Int))×Unit)) {u0 vs:List Int} {m j:Nat} {d:Int}
  (h0:dig B10 u0=true) (hv:dig B10 vs=true) (hN:u0.length=m+vs.length) (hbig:u0.length<=100000000000) (hj:j<m) (hV:0<dval B10 vs)
  (hg:g ((j:Int) - 1,(ldU B10 (dval B10 vs) u0 j,((vs.length:Int),(vs,(ldQ B10 (dval B10 vs) u0 m j,(d,()))))))=F)
  (q:Nat) (hq:q<1000000000) (h1:ldW B10 (dval B10 vs) u0 j/dval B10 vs<=q) (h2:q*dval B10 vs<ldW B10 (dval B10 vs) u0 j+dval B10 vs) (q':Int) (hq':q'=(q:Int)):
  (Option.bind (S.s_l01TakeOff (ldU B10 (dval B10 vs) u0 (j+1),(vs,((j:Int),(q',()))))) (fun(y19:(Bool×((List Int)×Unit)))=>(if(y19.1=true)then(Option.bind (S.s_l01PutBack ((Go.Cm.splice (ldU B10 (dval B10 vs) u0 (j+1)) y19.2.1 (0:Nat)),(vs,((j:Int),())))) (fun(y20:(Unit×((List Int)×Unit)))=>(if((decide ((0:Int)<=(j:Int)))=true)then(if((decide ((j:Int)<((List.length (ldQ B10 (dval B10 vs) u0 m (j+1))):Int)))=true)then(g ((IntKind.wrap .i64 ((j:Int) - (1:Int))),((Go.Cm.splice (Go.Cm.splice (ldU B10 (dval B10 vs) u0 (j+1)) y19.2.1 (0:Nat)) y20.2.1 (0:Nat)),((vs.length:Int),(vs,((List.set (ldQ B10 (dval B10 vs) u0 m (j+1)) ((0:Nat)+(Int.toNat (j:Int))) (IntKind.wrap .i64 (q' - (1:Int)))),(d,())))))))
 else none)
 else none)))
 else(if((decide ((0:Int)<=(j:Int)))=true)then(if((decide ((j:Int)<((List.length (ldQ B10 (dval B10 vs) u0 m (j+1))):Int)))=true)then(g ((IntKind.wrap .i64 ((j:Int) - (1:Int))),((Go.Cm.splice (ldU B10 (dval B10 vs) u0 (j+1)) y19.2.1 (0:Nat)),((vs.length:Int),(vs,((List.set (ldQ B10 (dval B10 vs) u0 m (j+1)) ((0:Nat)+(Int.toNat (j:Int))) q'),(d,())))))))
 else none)
 else none))))=F:=by
 subst hq';have hhi:=dval_lt hv;have hA:(u0.take j).length=j:=by simp;omega
 have hQ:=ld_Q B10_le hV h0 (show j<u0.length by omega) hj;have hQl:(ldQ B10 (dval B10 vs) u0 m (j+1)).length=m:=by unfold ldQ;rw[List.length_append,List.length_replicate,fd_len];omega
 have hUl:=ld_U_lt B10_le hV h0 hN hj hhi;have hs:=ld_shape B10_le hV h0 hN hj hhi;have hs':=ld_shape' B10_le hV h0 hN hj hhi;generalize hn:vs.length=n at*;generalize hVV:dval B10 vs=V at*;generalize hUU:ldW B10 V u0 j=U at*;generalize hR:List.replicate (m - 1 - j) (0:Int)=R at*;have hRl:R.length=m - 1 - j:=by rw[<-hR,List.length_replicate]
 have hUB:U/B10^n<1000000000:=by
  have:U/B10^n<B10:=by
   rw[Nat.div_lt_iff_lt_mul (Nat.pow_pos (by decide)),Nat.mul_comm,<-Nat.pow_succ];exact hUl
  exact this
 have hma:dval B10 (fd B10 n U)+B10^n*(U/B10^n)=U:=by rw[dval_fd];exact Nat.mod_add_div _ _
 have hdm:=Nat.mod_add_div U V;have hml:=Nat.mod_lt U hV;obtain⟨n1,n2⟩:=near hV h1 h2;generalize U/B10^n=ut at*;generalize U/V=Q at*;generalize U%V=M at*;have e1:(0:Int)<=(j:Int):=by omega
 have e2:(j:Int)<(m:Int):=by omega
 rw[hs];have hlen:∀(T:Int) (X:Nat),((u0.take j++fd B10 n X)++T::R).length=j+n+1+R.length:=fun T X=>sh_len hA (fd_len _ _ _)
 unfold S.s_l01TakeOff;dsimp only;simp only[Int.toNat_natCast,hn,hVV,hQl,e1,e2,decide_true,if_true,Nat.zero_add];rw[sh_take hA,sh_win hA (fd_len _ _ _),sh_top hA (fd_len _ _ _),sh_drop hA (fd_len _ _ _),hlen];rw[if_pos ⟨by first|trivial|omega,by omega,dig_fd (by decide) _ _,hv,by omega,by omega,by omega,by omega,by omega⟩,Option.bind_some];dsimp only;rw[<-Int.natCast_mul,<-Int.natCast_add,hma]
 by_cases hle:q*V<=U
 ·have hqe:=n1 hle;have eT:(U:Int) - ((V*q:Nat):Int)=((M:Nat):Int)+((B10^n:Nat):Int)*0:=by
   rw[hqe];omega
  rw[eT,(ediv_top (Nat.lt_trans hml hhi) 0).1,(ediv_top (Nat.lt_trans hml hhi) 0).2,Int.toNat_natCast,if_neg (by simp),<-hs',splice_all (by rw[hs',hlen,hlen]),hqe,hQ,wr (by omega) (by omega)];exact hg
 ·have hqe:=n2 (by omega);have hx:B10^n+M - V<B10^n:=by omega
  have eT:(U:Int) - ((V*q:Nat):Int)=((B10^n+M - V:Nat):Int)+((B10^n:Nat):Int)*(-1):=by
   rw[hqe,Nat.mul_add];omega
  rw[eT,(ediv_top hx (-1)).1,(ediv_top hx (-1)).2,Int.toNat_natCast,if_pos (by rfl),splice_all (by rw[hlen,hlen])];unfold S.s_l01PutBack;dsimp only;simp only[Int.toNat_natCast,hn,hVV];rw[sh_take hA,sh_win hA (fd_len _ _ _),sh_top hA (fd_len _ _ _),sh_drop hA (fd_len _ _ _),hlen];rw[if_pos ⟨by first|trivial|omega,by omega,dig_fd (by decide) _ _,hv,by omega,by omega,by omega⟩,Option.bind_some];dsimp only;have eT2:((dval B10 (fd B10 n (B10^n+M - V)):Nat):Int)+((B10^n:Nat):Int)* -1+(V:Int)=((M:Nat):Int)+((B10^n:Nat):Int)*0:=by
   rw[dval_fd,Nat.mod_eq_of_lt hx];omega
  rw[eT2,(ediv_top (Nat.lt_trans hml hhi) 0).1,(ediv_top (Nat.lt_trans hml hhi) 0).2,Int.toNat_natCast,<-hs',splice_all (by rw[hs',hlen,hlen]),hqe,wr (x:=((Q+1:Nat):Int) - 1) (by omega) (by omega),show((Q+1:Nat):Int) - 1=((Q:Nat):Int) by omega,hQ,wr (by omega) (by omega)];exact hg
theorem nd_inner (g:(Int×((List Int)×(Int×((List Int)×((List Int)×(Int×Unit))))))->(Option (((List Int)×(List Int))×Unit))) (F:Option (((List Int)×(List Int))×Unit)) {u0 vs:List Int} {m j:Nat} {d:Int}
  (h0:dig B10 u0=true) (hv:dig B10 vs=true) (hN:u0.length=m+vs.length) (hbig:u0.length<=100000000000) (hj:j<m) (hn2:2<=vs.length) (hlo:B10^(vs.length - 1)<=dval B10 vs)
  (hg:g ((j:Int) - 1,(ldU B10 (dval B10 vs) u0 j,((vs.length:Int),(vs,(ldQ B10 (dval B10 vs) u0 m j,(d,()))))))=F) (w:Nat):
  ∀q r k:Nat,q*(dval B10 vs/B10^(vs.length - 1))+r=ldW B10 (dval B10 vs) u0 j/B10^(vs.length - 1)->ldW B10 (dval B10 vs) u0 j/dval B10 vs<=q->r<1000000000->1000000000 - r<=w->w<k->q<=2000000000000000000->
  loopP (P.s_l01NatDiv_b12 g) k ((q:Int),(vs,((vs.length:Int),((r:Int),(ldU B10 (dval B10 vs) u0 (j+1),((j:Int),(ldQ B10 (dval B10 vs) u0 m (j+1),(d,()))))))))=F:=by
 have hV:0<dval B10 vs:=Nat.lt_of_lt_of_le (Nat.pow_pos (by decide)) hlo;have hhi:=dval_lt hv;have hU:=ld_lt B10_le hV h0 (show j<u0.length by omega);have win:=ld_win B10_le hn2 hlo hhi hU;have htail:=fun q hq h1 h2 q' hq'=>nd_tail g F h0 hv hN hbig hj hV hg q hq h1 h2 q' hq'
 have g1:=dig_low B10_le hv (i:=vs.length - 1) (by omega);have g2:=dig_low B10_le hv (i:=vs.length - 2) (by omega);have g3:=ld_get B10_le hV h0 hN hj hhi (i:=vs.length - 2) (by omega);have hsl:(ldU B10 (dval B10 vs) u0 (j+1)).length=m+vs.length:=by unfold ldU;rw[List.length_append,fd_len,List.length_take];omega
 have hv1B:dval B10 vs/B10^(vs.length - 1)<1000000000:=by
  have:dval B10 vs/B10^(vs.length - 1)<B10:=by
   rw[Nat.div_lt_iff_lt_mul (Nat.pow_pos (by decide)),Nat.mul_comm,<-Nat.pow_succ,show(vs.length - 1).succ=vs.length by omega];exact hhi
  exact this
 have g1':dval B10 vs/B10^(vs.length - 1)%B10=dval B10 vs/B10^(vs.length - 1):=Nat.mod_eq_of_lt hv1B;rw[g1']at g1;have hv1:=win.hv1;generalize hX:ldW B10 (dval B10 vs) u0 j/B10^(vs.length - 1)=X at*;generalize hv1e:dval B10 vs/B10^(vs.length - 1)=v1 at*;have hv2B:dval B10 vs/B10^(vs.length - 2)%B10<1000000000:=win.hv2;have hu2B:ldW B10 (dval B10 vs) u0 j/B10^(vs.length - 2)%B10<1000000000:=win.hu2;generalize hv2e:dval B10 vs/B10^(vs.length - 2)%B10=v2 at*;generalize hu2e:ldW B10 (dval B10 vs) u0 j/B10^(vs.length - 2)%B10=u2 at*
 induction w with
 |zero=>intro q r k _ _ hr hw;omega
 |succ w ih=>
  intro q r k e hq hr hw hk hqb;obtain⟨k,rfl⟩:∃k',k=k'+1:=⟨k - 1,by omega⟩
  rw[loopP_succ];unfold P.s_l01NatDiv_b12;dsimp only;have c1:(0:Int)<=(vs.length:Int) - 1:=by omega
  have c2:(vs.length:Int) - 1<(vs.length:Int):=by omega
  have c3:(0:Int)<=(vs.length:Int) - 2:=by omega
  have c4:(vs.length:Int) - 2<(vs.length:Int):=by omega
  have c5:(0:Int)<=(j:Int)+(vs.length:Int) - 2:=by omega
  have c6:(j:Int)+(vs.length:Int) - 2<((m+vs.length:Nat):Int):=by omega
  rw[hsl,wr (x:=(vs.length:Int) - 1) (by omega) (by omega),wr (x:=(vs.length:Int) - 2) (by omega) (by omega),wr (x:=(j:Int)+(vs.length:Int)) (by omega) (by omega),wr (x:=(j:Int)+(vs.length:Int) - 2) (by omega) (by omega)];simp only[c1,c2,c3,c4,c5,c6,decide_true,if_true];rw[show((vs.length:Int) - 1).toNat=vs.length - 1 by omega,show((vs.length:Int) - 2).toNat=vs.length - 2 by omega,show 0+((j:Int)+(vs.length:Int) - 2).toNat=j+(vs.length - 2) by omega,g1,g2,g3,wr (x:=(r:Int)+(v1:Int)) (by omega) (by omega)];have hstep:ldW B10 (dval B10 vs) u0 j/dval B10 vs<q->((r:Int)+(v1:Int)>=1000000000->(q - 1)<1000000000/\ldW B10 (dval B10 vs) u0 j/dval B10 vs<=q - 1/\(q - 1)*dval B10 vs<ldW B10 (dval B10 vs) u0 j+dval B10 vs/\IntKind.wrap .i64 ((q:Int) - 1)=((q - 1:Nat):Int))/\(¬((r:Int)+(v1:Int)>=1000000000)->loopP (P.s_l01NatDiv_b12 g) k (IntKind.wrap .i64 ((q:Int) - 1),(vs,((vs.length:Int),((r:Int)+(v1:Int),(ldU B10 (dval B10 vs) u0 (j+1),((j:Int),(ldQ B10 (dval B10 vs) u0 m (j+1),(d,()))))))))=F):=by
   intro hlt;have hq1:1<=q:=Nat.lt_of_le_of_lt (Nat.zero_le _) hlt;have eq1:IntKind.wrap .i64 ((q:Int) - 1)=((q - 1:Nat):Int):=by
    rw[wr (by omega) (by omega)];omega
   have e':(q - 1)*v1+(r+v1)=X:=by
    obtain⟨p,rfl⟩:∃p,q=p+1:=⟨q - 1,by omega⟩
    rw[Nat.add_mul,Nat.one_mul]at e;rw[Nat.add_sub_cancel];omega
   constructor
   ·intro hge;have hd:=win.done e' (.inr (show(1000000000:Nat)<=r+v1 by omega));exact⟨hd.1,by omega,hd.2,eq1⟩
   ·intro hge;rw[eq1,<-Int.natCast_add];exact ih (q - 1) (r+v1) k e' (by omega) (by omega) (by omega) (by omega) (by omega)
  by_cases b1:q>=1000000000
  ·rw[if_pos (decide_eq_true (by omega))];obtain⟨s1,s2⟩:=hstep (win.down e hq (.inl b1))
   by_cases b2:(r:Int)+(v1:Int)>=1000000000
   ·rw[if_pos (decide_eq_true b2)];obtain⟨t1,t2,t3,t4⟩:=s1 b2;exact htail (q - 1) t1 t2 t3 _ t4
   ·rw[if_neg (by simpa using b2)];exact s2 b2
  ·rw[if_neg (by simp;omega)];have hqv:q*v2<=999999999*999999999:=Nat.mul_le_mul (by omega) (by omega);rw[<-Int.natCast_mul,wr (x:=((q*v2:Nat):Int)) (by omega) (by omega),wr (x:=(r:Int)*1000000000) (by omega) (by omega),wr (x:=(r:Int)*1000000000+(u2:Int)) (by omega) (by omega)]
   by_cases b3:q*v2>r*1000000000+u2
   ·rw[if_pos (decide_eq_true (by omega))];obtain⟨s1,s2⟩:=hstep (win.down e hq (.inr b3))
    by_cases b2:(r:Int)+(v1:Int)>=1000000000
    ·rw[if_pos (decide_eq_true b2)];obtain⟨t1,t2,t3,t4⟩:=s1 b2;exact htail (q - 1) t1 t2 t3 _ t4
    ·rw[if_neg (by simpa using b2)];exact s2 b2
   ·rw[if_neg (by simp;omega)];have hd:=win.done e (.inl ⟨show q<B10 by show q<1000000000;omega,show q*v2<=r*B10+u2 by show q*v2<=r*1000000000+u2;omega⟩);exact htail q hd.1 hq hd.2 _ rfl
theorem nd_outer {u0 vs:List Int} {m d:Nat}
  (h0:dig B10 u0=true) (hv:dig B10 vs=true) (hN:u0.length=m+vs.length) (hbig:u0.length<=100000000000) (hn2:2<=vs.length) (hlo:B10^(vs.length - 1)<=dval B10 vs) (hd:0<d) (hd1:d<=1000000000) (ht:dval B10 (u0.drop m)<dval B10 vs):
  loopP (P.s_l01NatDiv_b9 (m+1000000010)) (m+1000000010) ((m:Int) - 1,(u0,((vs.length:Int),(vs,(List.replicate m 0,((d:Int),()))))))=some ((nd B10 (dval B10 u0/dval B10 vs),nd B10 (dval B10 u0%dval B10 vs/d)),()):=by
 have hV:0<dval B10 vs:=Nat.lt_of_lt_of_le (Nat.pow_pos (by decide)) hlo;have hhi:=dval_lt hv;obtain⟨f1,f2⟩:=ld_first B10_le hV h0 (show m<=u0.length by omega) ht;have key:=loop_up0 (k:=m+1000000010) (b:=P.s_l01NatDiv_b9 (m+1000000010)) (n:=m) (st:=fun i=>((m:Int) - 1 - (i:Int),ldU B10 (dval B10 vs) u0 (m - i),(vs.length:Int),vs,ldQ B10 (dval B10 vs) u0 m (m - i),(d:Int),())) (F:=fun i=>some ((nd B10 (dval B10 u0/dval B10 vs),nd B10 (dval B10 u0%dval B10 vs/d)),())) (fun i g hi hg=>by
  unfold P.s_l01NatDiv_b9;dsimp only at hg ⊢;obtain⟨j,hj⟩:∃j,m - i=j+1:=⟨m - i - 1,by omega⟩
  have hjm:j<m:=by omega
  rw[show m - (i+1)=j by omega,show(m:Int) - 1 - ((i+1:Nat):Int)=(j:Int) - 1 by omega]at hg;rw[hj,show(m:Int) - 1 - (i:Int)=(j:Int) by omega];have hU:=ld_lt B10_le hV h0 (show j<u0.length by omega);have win:=ld_win B10_le hn2 hlo hhi hU;have g1:=dig_low B10_le hv (i:=vs.length - 1) (by omega);have g3:=ld_get B10_le hV h0 hN hjm hhi (i:=vs.length) (by omega);have g4:=ld_get B10_le hV h0 hN hjm hhi (i:=vs.length - 1) (by omega);have hsl:(ldU B10 (dval B10 vs) u0 (j+1)).length=m+vs.length:=by unfold ldU;rw[List.length_append,fd_len,List.length_take];omega
  have hv1B:dval B10 vs/B10^(vs.length - 1)<1000000000:=by
   have:dval B10 vs/B10^(vs.length - 1)<B10:=by
    rw[Nat.div_lt_iff_lt_mul (Nat.pow_pos (by decide)),Nat.mul_comm,<-Nat.pow_succ,show(vs.length - 1).succ=vs.length by omega];exact hhi
   exact this
  have g1':dval B10 vs/B10^(vs.length - 1)%B10=dval B10 vs/B10^(vs.length - 1):=Nat.mod_eq_of_lt hv1B;rw[g1']at g1;have hv1:=win.hv1;have hxlt:=win.xlt;have hstart:=win.start;have hUl:=ld_U_lt B10_le hV h0 hN hjm hhi;have hinner:=nd_inner g _ h0 hv hN hbig hjm hn2 hlo hg 1000000000;have hXe:ldW B10 (dval B10 vs) u0 j/B10^vs.length%B10*1000000000+ldW B10 (dval B10 vs) u0 j/B10^(vs.length - 1)%B10=ldW B10 (dval B10 vs) u0 j/B10^(vs.length - 1):=by
   have hq:ldW B10 (dval B10 vs) u0 j/B10^vs.length<B10:=by
    rw[Nat.div_lt_iff_lt_mul (Nat.pow_pos (by decide)),Nat.mul_comm,<-Nat.pow_succ];exact hUl
   rw[Nat.mod_eq_of_lt hq];have e:B10^vs.length=B10^(vs.length - 1)*B10:=by rw[<-Nat.pow_succ];congr 1;omega
   rw[e,<-Nat.div_div_eq_div_mul,Nat.mul_comm];exact Nat.div_add_mod _ _
  have hu1:ldW B10 (dval B10 vs) u0 j/B10^vs.length%B10<1000000000:=Nat.mod_lt _ (by decide);have hu0:ldW B10 (dval B10 vs) u0 j/B10^(vs.length - 1)%B10<1000000000:=Nat.mod_lt _ (by decide);generalize hX:ldW B10 (dval B10 vs) u0 j/B10^(vs.length - 1)=X at*;generalize hv1e:dval B10 vs/B10^(vs.length - 1)=v1 at*;generalize ldW B10 (dval B10 vs) u0 j/B10^vs.length%B10=ua at*;generalize X%B10=ub at*;have c0:(j:Int)>=0:=by omega
  have c1:(0:Int)<=(j:Int)+(vs.length:Int):=by omega
  have c2:(j:Int)+(vs.length:Int)<((m+vs.length:Nat):Int):=by omega
  have c3:(0:Int)<=(j:Int)+(vs.length:Int) - 1:=by omega
  have c4:(j:Int)+(vs.length:Int) - 1<((m+vs.length:Nat):Int):=by omega
  have c5:(0:Int)<=(vs.length:Int) - 1:=by omega
  have c6:(vs.length:Int) - 1<(vs.length:Int):=by omega
  have c7:¬((v1:Int)=0):=by omega
  rw[hsl,wr (x:=(vs.length:Int) - 1) (by omega) (by omega),wr (x:=(j:Int)+(vs.length:Int)) (by omega) (by omega),wr (x:=(j:Int)+(vs.length:Int) - 1) (by omega) (by omega)];rw[show((vs.length:Int) - 1).toNat=vs.length - 1 by omega,show 0+((j:Int)+(vs.length:Int)).toNat=j+vs.length by omega,show 0+((j:Int)+(vs.length:Int) - 1).toNat=j+(vs.length - 1) by omega,g1,g3,g4];simp only[c0,c1,c2,c3,c4,c5,c6,c7,decide_true,decide_false,if_true,if_false,Bool.false_eq_true];rw[wr (x:=(ua:Int)*1000000000) (by omega) (by omega),wr (x:=(ua:Int)*1000000000+(ub:Int)) (by omega) (by omega),show(ua:Int)*1000000000+(ub:Int)=(X:Int) by omega,Int.tdiv_eq_ediv_of_nonneg (by omega),Int.tmod_eq_emod_of_nonneg (by omega),<-Int.natCast_ediv,<-Int.natCast_emod];have hX18:X<=1000000000000000000:=by omega
  have hXd:X/v1<=X:=Nat.div_le_self _ _;have hml:=Nat.mod_lt X hv1;have hdm:X/v1*v1+X%v1=X:=by rw[Nat.mul_comm];exact Nat.div_add_mod _ _
  generalize X/v1=qq at*;generalize X%v1=rr at*;rw[wr (x:=(qq:Int)) (by omega) (by omega)];exact hinner qq rr (m+1000000010) hdm hstart (by omega) (by omega) (by omega) (by omega)) (fun g=>by
  unfold P.s_l01NatDiv_b9;dsimp only;rw[if_neg (by simp;omega),Nat.sub_self];have hVN:dval B10 vs<=B10^u0.length:=Nat.le_trans (Nat.le_of_lt hhi) (Nat.pow_le_pow_right (by decide) (by omega));obtain⟨l1,l2,l3,l4,l5,l6⟩:=ld_last B10_le hV h0 (show m<=u0.length by omega) ht hVN;have hul:(nd B10 (dval B10 u0%dval B10 vs)).length<=u0.length:=by
   rw[nd_len B10_le,<-l1,<-l5];exact dval_lt l3
  unfold S.s_l01Trim S.s_l01ShortDiv;dsimp only;rw[if_pos ⟨l3,by omega⟩,Option.bind_some];dsimp only;rw[l1,if_pos ⟨dig_nd B10_le _,by omega,by omega,by omega⟩,Option.bind_some];dsimp only;rw[if_pos ⟨l4,by omega⟩,Option.bind_some,dval_nd B10_le,l2,Int.toNat_natCast]) (by omega)
 rw[Nat.sub_zero,f1,f2]at key;rw[<-key,show(m:Int) - 1 - ((0:Nat):Int)=(m:Int) - 1 by omega]
theorem nd_rest (as bs:List Int) (ca:canon B10 as=true) (cb:canon B10 bs=true) (hne:bs≠ []) (la:as.length<=10000000000) (lb:bs.length<=10000000000) (hb0:dval B10 bs≠0) (hlow:B10^(bs.length - 1)<=dval B10 bs)
  (b:(Int×((List Int)×(Int×((List Int)×((List Int)×(Int×Unit))))))->((Int×((List Int)×(Int×((List Int)×((List Int)×(Int×Unit))))))->Option (((List Int)×(List Int))×Unit))->Option (((List Int)×(List Int))×Unit)) (hbb:b=P.s_l01NatDiv_b9 ((as.length+1 - bs.length)+1000000010)):
  (Option.bind (S.s_l01Cmp (as,(bs,()))) (fun(y4:(Int×Unit))=>(if((decide (y4.1<(0:Int)))=true)then(if((decide ((((0:Nat)+(List.length as))*(8:Nat))<=(140737488355328:Nat)))=true)then(some ((([]:List Int),(([]:List Int)++as)),()))
 else none)
 else(if((((List.length bs):Int)==(1:Int))=true)then(if((decide ((0:Int)<((List.length bs):Int)))=true)then(Option.bind (S.s_l01ShortDiv (as,((List.getD bs (0:Nat) (0:Int)),()))) (fun(y5:(((List Int)×Int)×Unit))=>(Option.bind (S.s_l01Nat (y5.1.2,())) (fun(y6:((List Int)×Unit))=>(some ((y5.1.1,y6.1),()))))))
 else none)
 else(if((decide ((0:Int)<=(IntKind.wrap .i64 (((List.length bs):Int) - (1:Int)))))=true)then(if((decide ((IntKind.wrap .i64 (((List.length bs):Int) - (1:Int)))<((List.length bs):Int)))=true)then(if((decide ((IntKind.wrap .i64 ((List.getD bs (Int.toNat (IntKind.wrap .i64 (((List.length bs):Int) - (1:Int)))) (0:Int))+(1:Int)))=(0:Int)))=true)then none
 else(if((decide ((0:Int)<=(IntKind.wrap .i64 (((List.length as):Int)+(1:Int)))))=true)then(if((decide ((IntKind.wrap .i64 (((List.length as):Int)+(1:Int)))<=(IntKind.wrap .i64 (((List.length as):Int)+(1:Int)))))=true)then(if((decide (((IntKind.wrap .i64 (((List.length as):Int)+(1:Int)))*(8:Int))<=(281474976710656:Int)))=true)then(Option.bind (S.s_l01ShortMul (as,((IntKind.wrap .i64 (Int.tdiv (1000000000:Int) (IntKind.wrap .i64 ((List.getD bs (Int.toNat (IntKind.wrap .i64 (((List.length bs):Int) - (1:Int)))) (0:Int))+(1:Int))))),()))) (fun(y7:((List Int)×Unit))=>(Option.bind (S.s_l01ShortMul (bs,((IntKind.wrap .i64 (Int.tdiv (1000000000:Int) (IntKind.wrap .i64 ((List.getD bs (Int.toNat (IntKind.wrap .i64 (((List.length bs):Int) - (1:Int)))) (0:Int))+(1:Int))))),()))) (fun(y8:((List Int)×Unit))=>(if((decide ((0:Int)<=(IntKind.wrap .i64 (((List.length (Go.Cm.splice (List.replicate (Int.toNat (IntKind.wrap .i64 (((List.length as):Int)+(1:Int)))) (0:Int)) (List.take (List.length (List.replicate (Int.toNat (IntKind.wrap .i64 (((List.length as):Int)+(1:Int)))) (0:Int))) y7.1) (0:Nat))):Int) - ((List.length y8.1):Int)))))=true)then(if((decide ((IntKind.wrap .i64 (((List.length (Go.Cm.splice (List.replicate (Int.toNat (IntKind.wrap .i64 (((List.length as):Int)+(1:Int)))) (0:Int)) (List.take (List.length (List.replicate (Int.toNat (IntKind.wrap .i64 (((List.length as):Int)+(1:Int)))) (0:Int))) y7.1) (0:Nat))):Int) - ((List.length y8.1):Int)))<=(IntKind.wrap .i64 (((List.length (Go.Cm.splice (List.replicate (Int.toNat (IntKind.wrap .i64 (((List.length as):Int)+(1:Int)))) (0:Int)) (List.take (List.length (List.replicate (Int.toNat (IntKind.wrap .i64 (((List.length as):Int)+(1:Int)))) (0:Int))) y7.1) (0:Nat))):Int) - ((List.length y8.1):Int)))))=true)then(if((decide (((IntKind.wrap .i64 (((List.length (Go.Cm.splice (List.replicate (Int.toNat (IntKind.wrap .i64 (((List.length as):Int)+(1:Int)))) (0:Int)) (List.take (List.length (List.replicate (Int.toNat (IntKind.wrap .i64 (((List.length as):Int)+(1:Int)))) (0:Int))) y7.1) (0:Nat))):Int) - ((List.length y8.1):Int)))*(8:Int))<=(281474976710656:Int)))=true)then(Go.Cm.loopP (X:=(Int×((List Int)×(Int×((List Int)×((List Int)×(Int×Unit))))))) (R:=(((List Int)×(List Int))×Unit)) b ((as.length+1 - bs.length)+1000000010) ((IntKind.wrap .i64 ((IntKind.wrap .i64 (((List.length (Go.Cm.splice (List.replicate (Int.toNat (IntKind.wrap .i64 (((List.length as):Int)+(1:Int)))) (0:Int)) (List.take (List.length (List.replicate (Int.toNat (IntKind.wrap .i64 (((List.length as):Int)+(1:Int)))) (0:Int))) y7.1) (0:Nat))):Int) - ((List.length y8.1):Int))) - (1:Int))),((Go.Cm.splice (List.replicate (Int.toNat (IntKind.wrap .i64 (((List.length as):Int)+(1:Int)))) (0:Int)) (List.take (List.length (List.replicate (Int.toNat (IntKind.wrap .i64 (((List.length as):Int)+(1:Int)))) (0:Int))) y7.1) (0:Nat)),(((List.length y8.1):Int),(y8.1,((List.replicate (Int.toNat (IntKind.wrap .i64 (((List.length (Go.Cm.splice (List.replicate (Int.toNat (IntKind.wrap .i64 (((List.length as):Int)+(1:Int)))) (0:Int)) (List.take (List.length (List.replicate (Int.toNat (IntKind.wrap .i64 (((List.length as):Int)+(1:Int)))) (0:Int))) y7.1) (0:Nat))):Int) - ((List.length y8.1):Int)))) (0:Int)),((IntKind.wrap .i64 (Int.tdiv (1000000000:Int) (IntKind.wrap .i64 ((List.getD bs (Int.toNat (IntKind.wrap .i64 (((List.length bs):Int) - (1:Int)))) (0:Int))+(1:Int))))),())))))))
 else none)
 else none)
 else none)))))
 else none)
 else none)
 else none))
 else none)
 else none)))))=some ((nd B10 (dval B10 as/dval B10 bs),nd B10 (dval B10 as%dval B10 bs)),()):=by
 subst hbb;have da:=canon_dig ca;have db:=canon_dig cb;have hbpos:0<bs.length:=List.length_pos_iff.2 hne;have hhib:=dval_lt db;have hhia:=dval_lt da;have sc:S.s_l01Cmp (as,(bs,()))=some (cmpN (dval B10 as) (dval B10 bs),()):=by
  unfold S.s_l01Cmp;exact if_pos ⟨ca,cb,by dsimp only;omega⟩
 rw[sc,Option.bind_some];dsimp only
 by_cases hlt:dval B10 as<dval B10 bs
 ·have q1:(0+as.length)*8<=140737488355328:=by omega
  rw[if_pos (decide_eq_true (cmpN_lt.2 hlt)),if_pos (decide_eq_true q1),Nat.div_eq_of_lt hlt,Nat.mod_eq_of_lt hlt,nd_zero B10_le,canon_eq ca,List.nil_append]
 ·rw[if_neg (by simpa [cmpN_lt]using hlt)]
  by_cases h1:bs.length=1
  ·obtain⟨b0,rfl⟩:∃b0,bs=[b0]:=by
    match bs,h1 with
    | [b0],_=>exact⟨b0,rfl⟩
   rw[if_pos (by rfl),if_pos (by rfl)];have hb:dval B10 [b0]=b0.toNat:=by simp [dval]
   have hbd:=(dig_cons _ _).1 db;have hbd1:b0<1000000000:=hbd.1.2;rw[hb]at hb0 ⊢;show Option.bind (S.s_l01ShortDiv (as,(b0,()))) _=_;unfold S.s_l01ShortDiv S.s_l01Nat;dsimp only;have hm:=Nat.mod_lt (dval B10 as) (show 0<b0.toNat by omega);rw[if_pos ⟨da,by omega,by omega,by omega⟩,Option.bind_some];dsimp only;rw[if_pos ⟨by omega,by omega⟩,Option.bind_some,Int.toNat_natCast]
  ·rw[if_neg (by simp;omega)];have hn2:2<=bs.length:=by omega
   have c1:(0:Int)<=(bs.length:Int) - 1:=by omega
   have c2:(bs.length:Int) - 1<(bs.length:Int):=by omega
   have c3:(0:Int)<=(as.length:Int)+1:=by omega
   have c4:((as.length:Int)+1)*8<=281474976710656:=by omega
   have hbtB:dval B10 bs/B10^(bs.length - 1)<1000000000:=by
    have:dval B10 bs/B10^(bs.length - 1)<B10:=by
     rw[Nat.div_lt_iff_lt_mul (Nat.pow_pos (by decide)),Nat.mul_comm,<-Nat.pow_succ,show(bs.length - 1).succ=bs.length by omega];exact hhib
    exact this
   have hbt0:0<dval B10 bs/B10^(bs.length - 1):=Nat.div_pos hlow (Nat.pow_pos (by decide));have g1:=dig_low B10_le db (i:=bs.length - 1) (by omega);rw[show dval B10 bs/B10^(bs.length - 1)%B10=dval B10 bs/B10^(bs.length - 1)from Nat.mod_eq_of_lt hbtB]at g1;have hbt1:dval B10 bs<(dval B10 bs/B10^(bs.length - 1)+1)*B10^(bs.length - 1):=by
    have:=Nat.lt_div_mul_add (show 0<B10^(bs.length - 1)from Nat.pow_pos (by decide)) (a:=dval B10 bs);rw[Nat.add_mul,Nat.one_mul];exact this
   generalize hbt:dval B10 bs/B10^(bs.length - 1)=bt at*;have c5:¬((bt:Int)+1=0):=by omega
   rw[wr (x:=(bs.length:Int) - 1) (by omega) (by omega),wr (x:=(as.length:Int)+1) (by omega) (by omega),show((bs.length:Int) - 1).toNat=bs.length - 1 by omega,g1,wr (x:=(bt:Int)+1) (by omega) (by omega)];simp only[c1,c2,c3,c4,c5,decide_true,decide_false,if_true,if_false,Bool.false_eq_true,Int.le_refl];rw[Int.tdiv_eq_ediv_of_nonneg (by omega),show(1000000000:Int)/((bt:Int)+1)=((1000000000/(bt+1):Nat):Int) by rw[Int.natCast_ediv];rfl];have hd0:0<1000000000/(bt+1):=Nat.div_pos (by omega) (by omega);have hd1:1000000000/(bt+1)<=1000000000:=Nat.div_le_self _ _;have hd2:(bt+1)*(1000000000/(bt+1))<=B10:=Nat.mul_div_le _ _;generalize 1000000000/(bt+1)=d at*;rw[wr (x:=(d:Int)) (by omega) (by omega)];have m1:S.s_l01ShortMul (as,((d:Int),()))=some (nd B10 (dval B10 as*d),()):=by
    unfold S.s_l01ShortMul;exact if_pos ⟨ca,by dsimp only;omega,by dsimp only;omega,by dsimp only;omega⟩
   have m2:S.s_l01ShortMul (bs,((d:Int),()))=some (nd B10 (dval B10 bs*d),()):=by
    unfold S.s_l01ShortMul;exact if_pos ⟨cb,by dsimp only;omega,by dsimp only;omega,by dsimp only;omega⟩
   rw[m1,Option.bind_some,m2,Option.bind_some];dsimp only;have hvhi:dval B10 bs*d<B10^bs.length:=by
    have h3:dval B10 bs*d<(bt+1)*B10^(bs.length - 1)*d:=Nat.mul_lt_mul_of_pos_right hbt1 hd0;have h4:(bt+1)*B10^(bs.length - 1)*d=(bt+1)*d*B10^(bs.length - 1):=by ac_rfl
    have h5:(bt+1)*d*B10^(bs.length - 1)<=B10*B10^(bs.length - 1):=Nat.mul_le_mul_right _ hd2;have h6:B10*B10^(bs.length - 1)=B10^bs.length:=by rw[Nat.mul_comm,<-Nat.pow_succ];congr 1;omega
    omega
   have hvlo:B10^(bs.length - 1)<=dval B10 bs*d:=Nat.le_trans hlow (Nat.le_mul_of_pos_right _ hd0);have hvl:(nd B10 (dval B10 bs*d)).length=bs.length:=by
    have h3:=(nd_len B10_le (dval B10 bs*d) bs.length).2 hvhi;have h4:=nd_len B10_le (dval B10 bs*d) (bs.length - 1);have h5:¬(nd B10 (dval B10 bs*d)).length<=bs.length - 1:=by
     rw[h4];omega
    omega
   have hal:(nd B10 (dval B10 as*d)).length<=as.length+1:=by
    rw[nd_len B10_le,Nat.pow_succ];exact Nat.lt_of_lt_of_le (Nat.mul_lt_mul_of_pos_right hhia hd0) (Nat.mul_le_mul_left _ hd1)
   have hab:bs.length<=as.length:=by
    rcases Nat.lt_or_ge as.length bs.length with g|g
    ·have:=canon_small B10_le ca cb g;omega
    ·exact g
   have hdv:dval B10 (nd B10 (dval B10 as*d))=dval B10 as*d:=dval_nd B10_le _;have hdw:dval B10 (nd B10 (dval B10 bs*d))=dval B10 bs*d:=dval_nd B10_le _;have hdu:=dig_nd B10_le (dval B10 as*d);have hdv':=dig_nd B10_le (dval B10 bs*d);generalize nd B10 (dval B10 as*d)=ys at*;generalize nd B10 (dval B10 bs*d)=vs at*;have hsp:Go.Cm.splice (List.replicate ((as.length:Int)+1).toNat (0:Int)) (List.take (List.length (List.replicate ((as.length:Int)+1).toNat (0:Int))) ys) 0=ys++List.replicate (as.length+1 - ys.length) 0:=by
    rw[List.length_replicate,show((as.length:Int)+1).toNat=as.length+1 by omega,List.take_of_length_le hal];unfold splice;rw[List.take_zero,List.nil_append,Nat.zero_add,List.drop_replicate]
   rw[hsp];have hu0:dval B10 (ys++List.replicate (as.length+1 - ys.length) 0)=dval B10 as*d:=by rw[dval_zeros,hdv]
   have hul:(ys++List.replicate (as.length+1 - ys.length) 0).length=(as.length+1 - bs.length)+vs.length:=by
    rw[List.length_append,List.length_replicate];omega
   have hud:dig B10 (ys++List.replicate (as.length+1 - ys.length) 0)=true:=by
    rw[dig_append,hdu,Bool.true_and];unfold dig;rw[List.all_eq_true];intro x hx;rw[List.eq_of_mem_replicate hx];decide
   generalize ys++List.replicate (as.length+1 - ys.length) 0=u0 at*;have ht:dval B10 (u0.drop (as.length+1 - bs.length))<dval B10 bs*d:=ld_top (n:=vs.length) B10_le hud hu0 hd0 hul (by rw[show as.length+1 - bs.length+vs.length - 1=as.length by omega];exact hhia) (by omega) (by rw[hvl];exact hlow);have hmain:=nd_outer (m:=as.length+1 - bs.length) (d:=d) hud hdv' hul (by omega) (by omega) (by rw[hvl,hdw];exact hvlo) hd0 hd1 (by rw[hdw];exact ht);have e9:((u0.length:Int) - (vs.length:Int))=((as.length+1 - bs.length:Nat):Int):=by omega
   have c6:(0:Int)<=((as.length+1 - bs.length:Nat):Int):=by omega
   have c7:((as.length+1 - bs.length:Nat):Int)*8<=281474976710656:=by omega
   rw[e9,wr (x:=((as.length+1 - bs.length:Nat):Int)) (by omega) (by omega),wr (x:=((as.length+1 - bs.length:Nat):Int) - 1) (by omega) (by omega)];simp only[c6,c7,decide_true,if_true,Int.toNat_natCast];rw[hmain,hu0,hdw,Nat.mul_div_mul_right _ _ hd0,Nat.mul_mod_mul_right,Nat.mul_div_cancel _ hd0]
def S.s_l01NatDiv (x:((List Int)×((List Int)×Unit))):(Option (((List Int)×(List Int))×Unit)):=if canon B10 x.1=true/\canon B10 x.2.1=true/\x.2.1≠ []/\x.1.length<=10000000000/\x.2.1.length<=10000000000 then some ((nd B10 (dval B10 x.1/dval B10 x.2.1),nd B10 (dval B10 x.1%dval B10 x.2.1)),())else none
theorem S.s_l01NatDiv_ok (x r) (h:S.s_l01NatDiv x=some r):∃k,P.s_l01NatDiv k x=some r:=by
 obtain⟨as,bs,u⟩:=x;unfold S.s_l01NatDiv at h;dsimp only at h;split at h
 case isFalse=>cases h
 rename_i hc;obtain⟨ca,cb,hne,la,lb⟩:=hc;cases h;have da:=canon_dig ca;have db:=canon_dig cb;have hbpos:0<bs.length:=List.length_pos_iff.2 hne;have hb0:dval B10 bs≠0:=by
  intro q;have:=canon_eq cb;rw[q,nd_zero B10_le]at this;exact hne this.symm
 have hlow:=nd_low B10_le hb0;rw[canon_eq cb]at hlow;have hhib:=dval_lt db;have hhia:=dval_lt da;have sa:S.s_l01Small (as,())=some ((if as.length<=2 then((dval B10 as:Nat):Int)else 0,decide (as.length<=2)),()):=by
  unfold S.s_l01Small;exact if_pos ⟨da,by dsimp only;omega⟩
 have sb:S.s_l01Small (bs,())=some ((if bs.length<=2 then((dval B10 bs:Nat):Int)else 0,decide (bs.length<=2)),()):=by
  unfold S.s_l01Small;exact if_pos ⟨db,by dsimp only;omega⟩
 have sc:S.s_l01Cmp (as,(bs,()))=some (cmpN (dval B10 as) (dval B10 bs),()):=by
  unfold S.s_l01Cmp;exact if_pos ⟨ca,cb,by dsimp only;omega⟩
 refine⟨(as.length+1 - bs.length)+1000000010,?_⟩;unfold P.s_l01NatDiv;dsimp only;rw[sa,Option.bind_some,sb,Option.bind_some];dsimp only;have hsmall:∀xs:List Int,dig B10 xs=true->xs.length<=2->dval B10 xs<1000000000000000000:=by
  intro xs hd hl;have h1:=dval_lt hd;have h2:B10^xs.length<=B10^2:=Nat.pow_le_pow_right (by decide) hl;have h3:B10^2=1000000000000000000:=rfl;omega
 by_cases c1:as.length<=2
 ·by_cases c2:bs.length<=2
  ·have s1:=hsmall as da c1;have s2:=hsmall bs db c2;have hz:¬(((dval B10 bs:Nat):Int)=0):=by omega
   simp only[c1,c2,hz,decide_true,decide_false,if_true,if_false,Bool.false_eq_true];rw[Int.tdiv_eq_ediv_of_nonneg (by omega),Int.tmod_eq_emod_of_nonneg (by omega),<-Int.natCast_ediv,<-Int.natCast_emod];have hq:=Nat.div_le_self (dval B10 as) (dval B10 bs);have hm:=Nat.mod_le (dval B10 as) (dval B10 bs);generalize dval B10 as/dval B10 bs=Q at*;generalize dval B10 as%dval B10 bs=M at*;rw[wr (by omega) (by omega)];unfold S.s_l01Nat;dsimp only;rw[if_pos ⟨by omega,by omega⟩,Option.bind_some,if_pos ⟨by omega,by omega⟩,Option.bind_some,Int.toNat_natCast,Int.toNat_natCast]
  ·rw[if_pos (decide_eq_true c1),if_neg (by simpa using c2)];exact nd_rest as bs ca cb hne la lb hb0 hlow _ rfl
 ·rw[if_neg (by simpa using c1)];exact nd_rest as bs ca cb hne la lb hb0 hlow _ rfl
abbrev P.s_l01Gcd_b0 (x1:List Int×List Int×Unit) (g2:List Int×List Int×Unit->Option (List Int×Unit)):Option (List Int×Unit):=
 if decide ((x1.1.length:Int)>(0:Int))then(S.s_l01NatDiv (x1.2.1,x1.1,())).bind fun y3=>g2 (y3.1.2,x1.1,())else some (x1.2.1,())
def P.s_l01Gcd (k:Nat) (x:List Int×List Int×Unit):Option (List Int×Unit):=
 loopP P.s_l01Gcd_b0 k (x.2.1,x.1,())
theorem canon_pos {B:Nat} (hB:2<=B) {xs:List Int} (h:canon B xs=true) (hn:xs≠ []):dval B xs≠0:=by
 intro q;have:=canon_eq h;rw[q,nd_zero hB]at this;exact hn this.symm
theorem nd_shorter {B:Nat} (hB:2<=B) {m n:Nat} (h:m<=n):(nd B m).length<=(nd B n).length:=by
 rw[nd_len hB];exact Nat.lt_of_le_of_lt h ((nd_len hB n _).1 (Nat.le_refl _))
theorem sg_loop (n:Nat):∀(as bs:List Int) (k:Nat),canon B10 as=true->canon B10 bs=true->as.length<=10000000000->bs.length<=10000000000->dval B10 bs<=n->n<k->loopP P.s_l01Gcd_b0 k (bs,(as,()))=some (nd B10 (Nat.gcd (dval B10 as) (dval B10 bs)),()):=by
 induction n using Nat.strongRecOn with
 |ind n ih=>
  intro as bs k ca cb la lb hn hk;obtain⟨k,rfl⟩:∃j,k=j+1:=⟨k - 1,by omega⟩
  rw[loopP_succ];unfold P.s_l01Gcd_b0;dsimp only
  by_cases hb:bs=[]
  ·subst hb;rw[if_neg (by simp),show dval B10 []=0 from rfl,Nat.gcd_zero_right,canon_eq ca]
  ·have hpos:0<bs.length:=List.length_pos_iff.2 hb;have hb0:=canon_pos B10_le cb hb;have hm:=Nat.mod_lt (dval B10 as) (show 0<dval B10 bs by omega);have hc:(bs.length:Int)>0:=by omega
   rw[if_pos (decide_eq_true hc)];show Option.bind (S.s_l01NatDiv (as,(bs,()))) (fun y3=>loopP P.s_l01Gcd_b0 k (y3.1.2,(bs,())))=_;unfold S.s_l01NatDiv;dsimp only;rw[if_pos ⟨ca,cb,hb,la,lb⟩,Option.bind_some];dsimp only;have hl:(nd B10 (dval B10 as%dval B10 bs)).length<=bs.length:=by
    have:=nd_shorter B10_le (Nat.le_of_lt hm);rwa [canon_eq cb]at this
   have hd:dval B10 (nd B10 (dval B10 as%dval B10 bs))=dval B10 as%dval B10 bs:=dval_nd B10_le _;rw[ih (dval B10 as%dval B10 bs) (by omega) bs (nd B10 (dval B10 as%dval B10 bs)) k cb (canon_nd B10_le _) lb (by omega) (by rw[hd];exact Nat.le_refl _) (by omega),hd,gcd_step]
def S.s_l01Gcd (x:((List Int)×((List Int)×Unit))):(Option ((List Int)×Unit)):=if canon B10 x.1=true/\canon B10 x.2.1=true/\x.1.length<=10000000000/\x.2.1.length<=10000000000 then some (nd B10 (Nat.gcd (dval B10 x.1) (dval B10 x.2.1)),())else none
theorem S.s_l01Gcd_ok (x r) (h:S.s_l01Gcd x=some r):∃k,P.s_l01Gcd k x=some r:=by
 obtain⟨as,bs,u⟩:=x;unfold S.s_l01Gcd at h;dsimp only at h;split at h
 case isFalse=>cases h
 rename_i hc;obtain⟨ca,cb,la,lb⟩:=hc;cases h;refine⟨dval B10 bs+1,?_⟩;unfold P.s_l01Gcd;exact sg_loop (dval B10 bs) as bs _ ca cb la lb (Nat.le_refl _) (by omega)
def P.s_l01Make (k:Nat) (x:Bool×List Int×List Int×Unit):Option (RB×Unit):=
 (S.s_l01Gcd (x.2.1,x.2.2.1,())).bind fun y0=>(S.s_l01Cmp (y0.1,[(1:Int)],())).bind fun y1=>if y1.1 != (0:Int)then(S.s_l01NatDiv (x.2.1,y0.1,())).bind fun y2=>(S.s_l01NatDiv (x.2.2.1,y0.1,())).bind fun y3=>if x.1 then some ((decide ((y2.1.1.length:Int)>(0:Int)),y2.1.1,y3.1.1),())else some ((false,y2.1.1,y3.1.1),())else if x.1 then some ((decide ((x.2.1.length:Int)>(0:Int)),x.2.1,x.2.2.1),())else some ((false,x.2.1,x.2.2.1),())
def S.s_l01Make (x:(Bool×((List Int)×((List Int)×Unit)))):(Option (RB×Unit)):=if canon B10 x.2.1=true/\canon B10 x.2.2.1=true/\x.2.2.1≠ []/\x.2.1.length<=10000000000/\x.2.2.1.length<=10000000000 then some (rp B10 (lowN x.1 (dval B10 x.2.1) (dval B10 x.2.2.1)),())else none
theorem S.s_l01Make_ok (x r) (h:S.s_l01Make x=some r):∃k,P.s_l01Make k x=some r:=by
 obtain⟨neg,as,bs',u⟩:=x;unfold S.s_l01Make at h;dsimp only at h;split at h
 case isFalse=>cases h
 rename_i hc;obtain⟨ca,cb,hne,la,lb⟩:=hc;cases h;refine⟨0,?_⟩;unfold P.s_l01Make;dsimp only;have hb0:dval B10 bs'≠0:=fun e=>hne ((canon_nil B10_le cb).2 e)
 have hg:=gcd_len B10_le ca cb hb0;have hgp:0<Nat.gcd (dval B10 as) (dval B10 bs'):=Nat.gcd_pos_of_pos_right _ (by omega);have e1:S.s_l01Gcd (as,(bs',()))=some (nd B10 (Nat.gcd (dval B10 as) (dval B10 bs')),()):=by
  unfold S.s_l01Gcd;exact if_pos ⟨ca,cb,la,lb⟩
 rw[e1,Option.bind_some];dsimp only;unfold lowN rp;dsimp only;have hgne:nd B10 (Nat.gcd (dval B10 as) (dval B10 bs'))≠ []:=by
  rw[nd_pos B10_le (by omega)];simp
 have hgd:dval B10 (nd B10 (Nat.gcd (dval B10 as) (dval B10 bs')))=Nat.gcd (dval B10 as) (dval B10 bs'):=dval_nd B10_le _;have hgc:canon B10 (nd B10 (Nat.gcd (dval B10 as) (dval B10 bs')))=true:=canon_nd B10_le _;have e2:∀xs,canon B10 xs=true->xs.length<=10000000000->S.s_l01NatDiv (xs,(nd B10 (Nat.gcd (dval B10 as) (dval B10 bs')),()))=some ((nd B10 (dval B10 xs/Nat.gcd (dval B10 as) (dval B10 bs')),nd B10 (dval B10 xs%Nat.gcd (dval B10 as) (dval B10 bs'))),()):=by
  intro xs cx lx;unfold S.s_l01NatDiv;dsimp only;rw[if_pos ⟨cx,hgc,hgne,lx,by omega⟩,hgd]
 have e3:S.s_l01Cmp (nd B10 (Nat.gcd (dval B10 as) (dval B10 bs')),([1],()))=some (cmpN (Nat.gcd (dval B10 as) (dval B10 bs')) 1,()):=by
  unfold S.s_l01Cmp;dsimp only;rw[if_pos ⟨hgc,canon_one B10_le,by omega⟩,hgd,dval_one]
 rw[e3,Option.bind_some,e2 as ca la,Option.bind_some,e2 bs' cb lb,Option.bind_some];dsimp only;have hpos:∀xs:List Int,canon B10 xs=true->(decide (((xs.length:Nat):Int)>0))=decide (dval B10 xs≠0):=by
  intro xs cx;have:=canon_nil B10_le cx;rw[decide_eq_decide];constructor
  ·intro h e;rw[this.2 e]at h;simp at h
  ·intro h;have:0<xs.length:=List.length_pos_iff.2 (fun e=>h (this.1 e));omega
 have hp2:decide (dval B10 as/Nat.gcd (dval B10 as) (dval B10 bs')≠0)=decide (dval B10 as≠0):=by
  rw[decide_eq_decide];have hdv:Nat.gcd (dval B10 as) (dval B10 bs') ∣ dval B10 as:=Nat.gcd_dvd_left _ _;constructor
  ·intro h e;rw[e,Nat.zero_div]at h;exact h rfl
  ·intro h e;have:=Nat.div_pos (Nat.le_of_dvd (by omega) hdv) hgp;omega
 rw[hpos _ (canon_nd B10_le _),hpos as ca,dval_nd B10_le,hp2]
 by_cases h1:Nat.gcd (dval B10 as) (dval B10 bs')=1
 ·rw[if_neg (by simpa using cmpN_zero.2 h1),h1,Nat.div_one,Nat.div_one,canon_eq ca,canon_eq cb];cases neg<;>simp
 ·rw[if_pos (by simpa using fun q=>h1 (cmpN_zero.1 q))];cases neg<;>simp
def P.s_l01Sum (k:Nat) (x:RB×RB×Unit):Option (RB×Unit):=
 (S.s_l01NatMul (x.1.2.1,x.2.1.2.2,())).bind fun y0=>(S.s_l01NatMul (x.2.1.2.1,x.1.2.2,())).bind fun y1=>(S.s_l01NatMul (x.1.2.2,x.2.1.2.2,())).bind fun y2=>if x.1.1==x.2.1.1 then(S.s_l01NatAdd (y0.1,y1.1,())).bind fun y3=>(S.s_l01Make (x.1.1,y3.1,y2.1,())).bind fun y4=>some ((y4.1.1,y4.1.2.1,y4.1.2.2),())else(S.s_l01Cmp (y0.1,y1.1,())).bind fun y5=>if decide (y5.1>=0)then(S.s_l01NatLess (y0.1,y1.1,())).bind fun y6=>(S.s_l01Make (x.1.1,y6.1,y2.1,())).bind fun y7=>some ((y7.1.1,y7.1.2.1,y7.1.2.2),())else(S.s_l01NatLess (y1.1,y0.1,())).bind fun y8=>(S.s_l01Make (x.2.1.1,y8.1,y2.1,())).bind fun y9=>some ((y9.1.1,y9.1.2.1,y9.1.2.2),())
theorem sa_mul (p q:Nat) (hp:(nd B10 p).length<=100000000) (hq:(nd B10 q).length<=100000000):S.s_l01NatMul (nd B10 p,(nd B10 q,()))=some (nd B10 (p*q),()):=by
 unfold S.s_l01NatMul;dsimp only;rw[if_pos ⟨dig_nd B10_le _,dig_nd B10_le _,by omega,by omega⟩,dval_nd B10_le,dval_nd B10_le]
theorem sa_add (p q:Nat) (hp:(nd B10 p).length<=100000000) (hq:(nd B10 q).length<=100000000):S.s_l01NatAdd (nd B10 p,(nd B10 q,()))=some (nd B10 (p+q),()):=by
 unfold S.s_l01NatAdd;dsimp only;rw[if_pos ⟨canon_nd B10_le _,canon_nd B10_le _,by omega,by omega⟩,dval_nd B10_le,dval_nd B10_le]
theorem sa_sub (p q:Nat) (hp:(nd B10 p).length<=100000000) (h:q<=p):S.s_l01NatLess (nd B10 p,(nd B10 q,()))=some (nd B10 (p - q),()):=by
 unfold S.s_l01NatLess;dsimp only;rw[dval_nd B10_le,dval_nd B10_le,if_pos ⟨dig_nd B10_le _,dig_nd B10_le _,nd_shorter' B10_le h,h,by omega⟩]
theorem sa_cmp (p q:Nat) (hp:(nd B10 p).length<=100000000):S.s_l01Cmp (nd B10 p,(nd B10 q,()))=some (cmpN p q,()):=by
 unfold S.s_l01Cmp;dsimp only;rw[if_pos ⟨canon_nd B10_le _,canon_nd B10_le _,by omega⟩,dval_nd B10_le,dval_nd B10_le]
theorem sa_low (n:Bool) (p q:Nat) (hp:(nd B10 p).length<=100000000) (hq:(nd B10 q).length<=100000000) (h0:q≠0):S.s_l01Make (n,(nd B10 p,(nd B10 q,())))=some (rp B10 (lowN n p q),()):=by
 unfold S.s_l01Make;dsimp only;rw[if_pos ⟨canon_nd B10_le _,canon_nd B10_le _,nd_ne B10_le h0,by omega,by omega⟩,dval_nd B10_le,dval_nd B10_le]
def S.s_l01Sum (x:(RB×(RB×Unit))):(Option (RB×Unit)):=if lowb B10 40000000 x.1=true/\lowb B10 40000000 x.2.1=true then some (rp B10 (addQ (rv B10 x.1) (rv B10 x.2.1)),())else none
theorem S.s_l01Sum_ok (x r) (h:S.s_l01Sum x=some r):∃k,P.s_l01Sum k x=some r:=by
 obtain⟨x,y,u⟩:=x;unfold S.s_l01Sum at h;dsimp only at h;split at h
 case isFalse=>cases h
 rename_i hc;obtain⟨hx,hy⟩:=hc;cases h;rw[lowb_iff]at hx hy;obtain⟨hx,lx⟩:=hx;obtain⟨hy,ly⟩:=hy;obtain⟨n1,p1,q1,rfl,x1,x2⟩:=rok_nd hx;obtain⟨n2,p2,q2,rfl,y1,y2⟩:=rok_nd hy;rw[rv_nd B10_le]at lx ly ⊢;rw[rv_nd B10_le];have hq1:q1≠0:=by have:0<q1:=lx.1;omega
 have hq2:q2≠0:=by have:0<q2:=ly.1;omega
 have m1:=nd_mul_len B10_le p1 q2;have m2:=nd_mul_len B10_le p2 q1;have m3:=nd_mul_len B10_le q1 q2;have hq0:q1*q2≠0:=Nat.mul_ne_zero hq1 hq2;refine⟨0,?_⟩;unfold P.s_l01Sum;dsimp only;rw[sa_mul p1 q2 (by omega) (by omega),Option.bind_some,sa_mul p2 q1 (by omega) (by omega),Option.bind_some,sa_mul q1 q2 (by omega) (by omega),Option.bind_some];dsimp only;unfold addQ;dsimp only;have a1:=nd_add_len B10_le (p1*q2) (p2*q1);have a2:=nd_sub_len B10_le (p1*q2) (p2*q1);have a3:=nd_sub_len B10_le (p2*q1) (p1*q2)
 by_cases hn:n1=n2
 ·rw[if_pos (by simpa using hn),if_pos hn,sa_add _ _ (by omega) (by omega),Option.bind_some,sa_low n1 _ _ (by omega) (by omega) hq0,Option.bind_some]
 ·rw[if_neg (by simpa using hn),if_neg hn,sa_cmp _ _ (by omega),Option.bind_some];dsimp only;have hlt:=cmpN_lt (a:=p1*q2) (b:=p2*q1)
  by_cases hle:p2*q1<=p1*q2
  ·have hge:cmpN (p1*q2) (p2*q1)>=0:=by
    rcases Int.lt_or_le (cmpN (p1*q2) (p2*q1)) 0 with g|g
    ·have:=hlt.1 g;omega
    ·exact g
   rw[if_pos (decide_eq_true hge),if_pos hle,sa_sub _ _ (by omega) hle,Option.bind_some,sa_low n1 _ _ (by omega) (by omega) hq0,Option.bind_some]
  ·have hge:¬cmpN (p1*q2) (p2*q1)>=0:=by
    have:=hlt.2 (Nat.lt_of_not_le hle);omega
   rw[if_neg (by simpa using hge),if_neg hle,sa_sub _ _ (by omega) (Nat.le_of_lt (Nat.lt_of_not_le hle)),Option.bind_some,sa_low n2 _ _ (by omega) (by omega) hq0,Option.bind_some]
theorem rs_add {x y:Q3} {m n:Nat} (hx:low x) (bx:below m x) (hy:low y) (bY:below n y) (hm:m<=350000000) (hn:n<=350000000):S.s_l01Sum (rp B10 x,(rp B10 y,()))=some (rp B10 (addQ x y),()):=by
 unfold S.s_l01Sum;dsimp only;rw[if_pos ⟨lowb_rp9 (by decide) hx bx (by omega),lowb_rp9 (by decide) hy bY (by omega)⟩,rv_rp B10_le,rv_rp B10_le]
abbrev P.s_l01Cut_b0 (x1:Int×ByteArray×Int×List ByteArray×Int×Unit) (g2:Int×ByteArray×Int×List ByteArray×Int×Unit->Option (List ByteArray×Unit)):Option (List ByteArray×Unit):=
 (fun(a c e:Int) (b:ByteArray) (d:List ByteArray)=>if decide (a<=(b.size:Int))then if a==(b.size:Int)then if decide (0<=a)then if decide (a<=(b.size:Int))then if decide (0<=e)then if decide (e<=a)then if decide (((d.length+(List.length [ByteArray.extract b e.toNat a.toNat]))*16)<=140737488355328)then g2 (wrap .i64 (a+1),b,c,d++[ByteArray.extract b e.toNat a.toNat],wrap .i64 (a+1),())else none else none else none else none else none else if decide (0<=a)then if decide (a<(b.size:Int))then if(byteAt b a)==c then if decide (0<=a)then if decide (a<=(b.size:Int))then if decide (0<=e)then if decide (e<=a)then if decide (((d.length+(List.length [ByteArray.extract b e.toNat a.toNat]))*16)<=140737488355328)then g2 (wrap .i64 (a+1),b,c,d++[ByteArray.extract b e.toNat a.toNat],wrap .i64 (a+1),())else none else none else none else none else none else g2 (wrap .i64 (a+1),b,c,d,e,())else none else none else some (d,())) x1.1 x1.2.2.1 x1.2.2.2.2.1 x1.2.1 x1.2.2.2.1
def P.s_l01Cut (k:Nat) (x:ByteArray×Int×Unit):Option (List ByteArray×Unit):=
 loopP P.s_l01Cut_b0 k (0,x.1,x.2.1,[],0,())
def cutUp (s:ByteArray) (c:Int):Nat->List ByteArray×Nat
 |0=>([],0)
 |i+1=>if i=s.size\/byteAt s (i:Int)=c then((cutUp s c i).1++[s.extract (cutUp s c i).2 i],i+1)else cutUp s c i
theorem cutUp_le (s:ByteArray) (c:Int) (i:Nat):(cutUp s c i).1.length<=i/\(cutUp s c i).2<=i:=by
 induction i with
 |zero=>exact⟨Nat.le_refl _,Nat.le_refl _⟩
 |succ i ih=>
  unfold cutUp;split
  ·refine⟨?_,Nat.le_refl _⟩;simp;omega
  ·omega
def S.s_l01Cut (x:(ByteArray×(Int×Unit))):(Option ((List ByteArray)×Unit)):=if x.1.size<=1000000 then some ((cutUp x.1 x.2.1 (x.1.size+1)).1,())else none
theorem S.s_l01Cut_ok (x r) (h:S.s_l01Cut x=some r):∃k,P.s_l01Cut k x=some r:=by
 obtain⟨s,c,u⟩:=x;unfold S.s_l01Cut at h;dsimp only at h;split at h
 case isFalse=>cases h
 rename_i hs;cases h;refine⟨s.size+2,?_⟩;unfold P.s_l01Cut;dsimp only;have key:=loop_up0 (k:=s.size+2) (b:=P.s_l01Cut_b0) (n:=s.size+1) (st:=fun i=>((i:Int),s,c,(cutUp s c i).1,((cutUp s c i).2:Int),())) (F:=fun i=>some ((cutUp s c (s.size+1)).1,())) (fun i g hi hg=>by
  unfold P.s_l01Cut_b0;dsimp only at hg ⊢;obtain⟨q1,q2⟩:=cutUp_le s c i;have e1:(i:Int)<=(s.size:Int):=by omega
  have e2:(0:Int)<=(i:Int):=by omega
  have e3:(0:Int)<=((cutUp s c i).2:Int):=by omega
  have e4:((cutUp s c i).2:Int)<=(i:Int):=by omega
  have e5:((cutUp s c i).1.length+([s.extract (cutUp s c i).2 i]:List ByteArray).length)*16<=140737488355328:=by simp;omega
  rw[cutUp]at hg
  by_cases hq:i=s.size
  ·rw[if_pos (.inl hq)]at hg;rw[<-hg];have e6:((i:Int)==(s.size:Int))=true:=by simp [hq]
   simp only[e1,e2,e3,e4,e6,decide_true,if_true,Int.toNat_natCast];rw[if_pos (decide_eq_true e5),wr (by omega) (by omega)];rfl
  ·have e6:¬((i:Int)==(s.size:Int))=true:=by simp;omega
   have e7:(i:Int)<(s.size:Int):=by omega
   rw[if_pos (decide_eq_true e1),if_neg e6,if_pos (decide_eq_true e2),if_pos (decide_eq_true e7)]
   by_cases hb:byteAt s (i:Int)=c
   ·rw[if_pos (.inr hb)]at hg;rw[<-hg,if_pos (by simp [hb])];simp only[e1,e2,e3,e4,decide_true,if_true,Int.toNat_natCast];rw[if_pos (decide_eq_true e5),wr (by omega) (by omega)];rfl
   ·rw[if_neg (fun z=>z.elim hq hb)]at hg;rw[<-hg,if_neg (by simp [hb]),wr (by omega) (by omega)];rfl) (fun g=>by
  unfold P.s_l01Cut_b0;dsimp only;rw[if_neg (by simp;omega)]) (by omega)
 exact key
theorem cutUp_pieces (s:ByteArray) (c:UInt8):(cutUp s (c.toNat:Int) (s.size+1)).1.map (·.data.toList)=pieces c s.data.toList:=by
 have hsz:s.size=s.data.toList.length:=by rw[Array.length_toList];rfl
 have hex:∀a b,(s.extract a b).data.toList=(s.data.toList.take b).drop a:=by
  intro a b;simp [ByteArray.data_extract,Array.toList_extract,List.extract_eq_take_drop,List.drop_take]
 have key:∀i,i<=s.size->pieces c s.data.toList=(cutUp s (c.toNat:Int) i).1.map (·.data.toList)++glue ((s.data.toList.take i).drop (cutUp s (c.toNat:Int) i).2) (pieces c (s.data.toList.drop i)):=by
  intro i
  induction i with
  |zero=>
   intro _;simp [cutUp,glue_nil (pieces_ne c _)]
  |succ i ih=>
   intro hi;rw[ih (by omega)];obtain⟨q1,q2⟩:=cutUp_le s (c.toNat:Int) i;have hi':i<s.data.toList.length:=by omega
   have hb:byteAt s (i:Int)=(s.data.toList[i].toNat:Int):=by
    unfold byteAt;rw[getD_cast _ i _ hi']
   rw[List.drop_eq_getElem_cons hi',cutUp,pieces]
   by_cases hc:s.data.toList[i]=c
   ·rw[if_pos hc,if_pos (.inr (by rw[hb,hc]))];simp only[List.map_append,List.map_cons,List.map_nil,hex,List.append_assoc];congr 1;rw[show List.drop (i+1) (List.take (i+1) s.data.toList)=[]from List.drop_eq_nil_of_le (by simp;omega),glue_nil (pieces_ne c _)];simp [glue]
   ·rw[if_neg hc,if_neg (by
     rw[hb]
     rintro (h|h)
     ·omega
     ·exact hc (UInt8.toNat_inj.1 (by omega)))]
    rw[glue_glue,<-List.take_append_getElem hi',List.drop_append_of_le_length (by simp;omega)]
 have h:=key s.size (Nat.le_refl _);rw[h,cutUp,if_pos (.inl rfl)];simp only[List.map_append,List.map_cons,List.map_nil,hex];congr 1;rw[show List.drop s.size s.data.toList=[]from List.drop_eq_nil_of_le (by omega)];simp [pieces,glue]
abbrev s_l01NatRead.A:=Int×ByteArray×List Int×Unit
abbrev P.s_l01NatRead_b3 (g2:s_l01NatRead.A->Option (List Int×Unit)) (x4:Int×Int×s_l01NatRead.A) (g5:Int×Int×s_l01NatRead.A->Option (List Int×Unit)):Option (List Int×Unit):=
 (fun(a b c:Int) (d:ByteArray) (e:List Int)=>if decide (a<b)then if decide (0<=a)then if decide (a<(d.size:Int))then g5 (wrap .i64 (a+1),b,wrap .i64 ((wrap .i64 (10*c))+(wrap .i64 (wrap .u8 ((byteAt d a) - 48)))),d,e,())else none else none else if decide (((e.length+(List.length [c]))*8)<=140737488355328)then g2 (wrap .i64 (b - 9),d,e++[c],())else none) x4.1 x4.2.1 x4.2.2.1 x4.2.2.2.1 x4.2.2.2.2.1
abbrev P.s_l01NatRead_b0 (k:Nat) (x1:s_l01NatRead.A) (g2:s_l01NatRead.A->Option (List Int×Unit)):Option (List Int×Unit):=
 if decide (x1.1>0)then if decide (x1.1>9)then loopP (P.s_l01NatRead_b3 g2) k (wrap .i64 (x1.1 - 9),x1.1,0,x1.2.1,x1.2.2.1,())else loopP (P.s_l01NatRead_b3 g2) k (0,x1.1,0,x1.2.1,x1.2.2.1,())else(S.s_l01Trim (x1.2.2.1,())).bind fun y9=>some (y9.1,())
def P.s_l01NatRead (k:Nat) (x:ByteArray×Unit):Option (List Int×Unit):=
 loopP (P.s_l01NatRead_b0 k) k ((x.1.size:Int),x.1,[],())
theorem sr_inner (g) (s:ByteArray) (l:List UInt8) (hL:s.data.toList=l) (hd:allD l=true) (a n:Nat) (hn:n<=9) (han:a+n<=l.length) (hl:l.length<=1000000000) (out:List Int) (ho:out.length<=1000000000) (k:Nat) (hk:n<k):
  loopP (P.s_l01NatRead_b3 g) k ((a:Int),(((a+n:Nat):Int),((0:Int),(s,(out,())))))=g (((a+n:Nat):Int) - 9,(s,(out++[((dv ((l.drop a).take n):Nat):Int)],()))):=by
 have hs:s.size=l.length:=by rw[<-hL,Array.length_toList];rfl
 have key:=loop_up0 (k:=k) (b:=P.s_l01NatRead_b3 g) (n:=n) (st:=fun i=>(((a+i:Nat):Int),((a+n:Nat):Int),((dv ((l.drop a).take i):Nat):Int),s,out,())) (F:=fun i=>g (((a+n:Nat):Int) - 9,(s,(out++[((dv ((l.drop a).take n):Nat):Int)],())))) (fun i g' hi hg'=>by
  unfold P.s_l01NatRead_b3;dsimp only at hg' ⊢;refine Eq.trans ?_ hg';have hi2:i<(l.drop a).length:=by rw[List.length_drop];omega
  have e1:((a+i:Nat):Int)<((a+n:Nat):Int):=by omega
  have e2:(0:Int)<=((a+i:Nat):Int):=by omega
  have e3:((a+i:Nat):Int)<(l.length:Int):=by omega
  have hb:byteAt s ((a+i:Nat):Int)=(((l.drop a)[i]).toNat:Int):=by
   unfold byteAt;rw[hL,getD_cast l (a+i) _ (by omega),List.getElem_drop]
  have hc:=allD_get (allD_drop hd a) hi2;have hv:=dv_lt (allD_take (allD_drop hd a) i);have hp:10^((l.drop a).take i).length<=10^9:=Nat.pow_le_pow_right (by decide) (by simp;omega);have hp9:(10:Nat)^9=1000000000:=by decide
  rw[hs,hb,wr (x:=((a+i:Nat):Int)+1) (by omega) (by omega)];simp only[e1,e2,e3,decide_true,if_true];rw[<-List.take_append_getElem hi2,dv_snoc];generalize (l.drop a)[i].toNat=c at*;generalize dv ((l.drop a).take i)=v at*;have h8:IntKind.wrap .u8 ((c:Int) - 48)=(c:Int) - 48:=IntWalk.u8_in _ (by omega);rw[h8,wr (x:=(c:Int) - 48) (by omega) (by omega),wr (x:=10*(v:Int)) (by omega) (by omega),wr (x:=10*(v:Int)+((c:Int) - 48)) (by omega) (by omega),show 10*(v:Int)+((c:Int) - 48)=((10*v+(c - 48):Nat):Int) by omega];rfl) (fun g'=>by
  unfold P.s_l01NatRead_b3;dsimp only;have hcap:(out.length+ [((dv ((l.drop a).take n):Nat):Int)].length)*8<=140737488355328:=by
   rw[List.length_singleton];omega
  rw[if_neg (by simp),if_pos (decide_eq_true hcap),wr (by omega) (by omega)]) hk
 exact key
theorem sr_outer (s:ByteArray) (l:List UInt8) (hL:s.data.toList=l) (hd:allD l=true) (hl:l.length<=1000000000) (K:Nat) (hK:9<K) (n:Nat):∀(to:Int) (out:List Int) (k:Nat),to<=(n:Int)-> -9<=to->to<=(l.length:Int)->n<k->dig B10 out=true->out.length+n<=l.length->dval B10 out+B10^out.length*dv (l.take to.toNat)=dv l->
  loopP (P.s_l01NatRead_b0 K) k (to,(s,(out,())))=some (nd B10 (dv l),()):=by
 induction n using Nat.strongRecOn with
 |ind n ih=>
  intro to out k hto hlo htl hk hdo hol hv;obtain⟨k,rfl⟩:∃j,k=j+1:=⟨k - 1,by omega⟩
  rw[loopP_succ];unfold P.s_l01NatRead_b0;dsimp only
  by_cases h0:to>0
  ·rw[if_pos (decide_eq_true h0)];obtain⟨m,rfl⟩:∃m:Nat,to=(m:Int):=⟨to.toNat,by omega⟩
   rw[Int.toNat_natCast]at hv;have hB9:B10=10^9:=by decide
   have hstep:∀a c:Nat,c<=9->a+c=m->(c=9\/a=0)->loopP (P.s_l01NatRead_b3 (loopP (P.s_l01NatRead_b0 K) k)) K ((a:Int),((m:Int),((0:Int),(s,(out,())))))=some (nd B10 (dv l),()):=by
    intro a c hc9 hm hor;have hin:=sr_inner (loopP (P.s_l01NatRead_b0 K) k) s l hL hd a c hc9 (by omega) hl out (by omega) K (by omega);rw[hm]at hin;rw[hin];have htk:l.take m=l.take a++(l.drop a).take c:=by rw[<-hm,List.take_add]
    have hpc:((l.drop a).take c).length=c:=by simp;omega
    have hpd:=dv_lt (allD_take (allD_drop hd a) c);rw[hpc]at hpd;have hp9:10^c<=10^9:=Nat.pow_le_pow_right (by decide) hc9;have hpB:dv ((l.drop a).take c)<B10:=by rw[hB9];omega
    have hta:l.take ((m:Int) - 9).toNat=l.take a:=by
     rcases hor with g|g
     ·rw[show((m:Int) - 9).toNat=a by omega]
     ·subst g;rw[show((m:Int) - 9).toNat=0 by omega]
    refine ih (n - 1) (by omega) _ _ k (by omega) (by omega) (by omega) (by omega) ?_ (by rw[List.length_append,List.length_singleton];omega) ?_
    ·rw[dig_append,hdo,Bool.true_and,dig_cons];exact⟨⟨by omega,by omega⟩,rfl⟩
    ·rw[hta,dval_append,List.length_append,List.length_singleton,Nat.pow_succ,<-hv,htk,dv_append,hpc];have e1:dval B10 [((dv ((l.drop a).take c):Nat):Int)]=dv ((l.drop a).take c):=by rw[dval,Int.toNat_natCast];rfl
     rw[e1];rcases hor with g|g
     ·rw[g,<-hB9,Nat.mul_assoc,Nat.mul_add,Nat.mul_comm B10];omega
     ·subst g;have:dv (l.take 0)=0:=by rw[List.take_zero];rfl
      rw[this,Nat.mul_zero,Nat.zero_mul,Nat.zero_add];omega
   by_cases h9:(m:Int)>9
   ·rw[if_pos (decide_eq_true h9),wr (by omega) (by omega),show(m:Int) - 9=((m - 9:Nat):Int) by omega];exact hstep (m - 9) 9 (Nat.le_refl _) (by omega) (.inl rfl)
   ·rw[if_neg (by simpa using h9)];exact hstep 0 m (by omega) (by omega) (.inr rfl)
  ·rw[if_neg (by simpa using h0)];have h00:to.toNat=0:=by omega
   rw[h00,List.take_zero,show dv []=0 from rfl,Nat.mul_zero,Nat.add_zero]at hv;unfold S.s_l01Trim;dsimp only;rw[if_pos ⟨hdo,by omega⟩,Option.bind_some,hv]
def S.s_l01NatRead (x:(ByteArray×Unit)):(Option ((List Int)×Unit)):=if allD x.1.data.toList=true/\x.1.data.toList.length<=1000000000 then some (nd B10 (dv x.1.data.toList),())else none
theorem S.s_l01NatRead_ok (x r) (h:S.s_l01NatRead x=some r):∃k,P.s_l01NatRead k x=some r:=by
 obtain⟨s,u⟩:=x;unfold S.s_l01NatRead at h;dsimp only at h;split at h
 case isFalse=>cases h
 rename_i hc;obtain⟨hd,hl⟩:=hc;cases h;have hs:s.size=s.data.toList.length:=by rw[Array.length_toList];rfl
 refine⟨s.data.toList.length+10,?_⟩;unfold P.s_l01NatRead;dsimp only;rw[hs];exact sr_outer s _ rfl hd hl _ (by omega) s.data.toList.length _ [] _ (Int.le_refl _) (by omega) (Int.le_refl _) (by omega) rfl (by simp) (by rw[Int.toNat_natCast,List.take_length];simp [dval])
abbrev P.s_l01Digits_b0 (x1:Int×ByteArray×Unit) (g2:Int×ByteArray×Unit->Option (Bool×Unit)):Option (Bool×Unit):=
 (fun(a:Int) (b:ByteArray)=>if decide (a<(b.size:Int))then if decide (0<=a)then if decide (a<(b.size:Int))then if decide ((byteAt b a)<48)then some (false,())else if decide (0<=a)then if decide (a<(b.size:Int))then if decide ((byteAt b a)>57)then some (false,())else g2 (wrap .i64 (a+1),b,())else none else none else none else none else if decide ((b.size:Int)>=1)then if decide ((b.size:Int)<=200)then if(b.size:Int)==1 then some (true,())else if decide (0<(b.size:Int))then some ((byteAt b 0) != 48,())else none else some (false,())else some (false,())) x1.1 x1.2.1
def P.s_l01Digits (k:Nat) (x:ByteArray×Unit):Option (Bool×Unit):=
 loopP P.s_l01Digits_b0 k (0,x.1,())
def S.s_l01Digits (x:(ByteArray×Unit)):(Option (Bool×Unit)):=if x.1.size<=281474976710656 then some (okN x.1.data.toList,())else none
theorem S.s_l01Digits_ok (x r) (h:S.s_l01Digits x=some r):∃k,P.s_l01Digits k x=some r:=by
 obtain⟨s,u⟩:=x;unfold S.s_l01Digits at h;dsimp only at h;split at h
 case isFalse=>cases h
 rename_i hsz;cases h;have hs:s.size=s.data.toList.length:=by rw[Array.length_toList];rfl
 rw[hs]at hsz;refine⟨s.data.toList.length+1,?_⟩;unfold P.s_l01Digits;dsimp only;generalize hL:s.data.toList=l at*;have key:=loop_up0 (k:=l.length+1) (b:=P.s_l01Digits_b0) (n:=l.length) (st:=fun i=>((i:Int),s,())) (F:=fun i=>some (allD (l.drop i)&&okR l,())) (fun i g hi hg=>by
  unfold P.s_l01Digits_b0;dsimp only at hg ⊢;have e1:(i:Int)<(l.length:Int):=by omega
  have e2:(0:Int)<=(i:Int):=by omega
  have hb:byteAt s (i:Int)=(l[i].toNat:Int):=by
   unfold byteAt;rw[hL,getD_cast l i _ hi]
  have ha:allD (l.drop i)=(isD l[i]&&allD (l.drop (i+1))):=by
   rw[List.drop_eq_getElem_cons hi];rfl
  rw[hs,hb,wr (x:=(i:Int)+1) (by omega) (by omega),ha];simp only[e1,e2,decide_true,if_true];unfold isD
  by_cases c1:48<=l[i].toNat
  ·rw[if_neg (by simp;omega)]
   by_cases c2:l[i].toNat<=57
   ·rw[if_neg (by simp;omega),decide_eq_true ⟨c1,c2⟩,Bool.true_and];exact hg
   ·rw[if_pos (decide_eq_true (by omega)),decide_eq_false (fun q=>c2 q.2)];rfl
  ·rw[if_pos (decide_eq_true (by omega)),decide_eq_false (fun q=>c1 q.1)];rfl) (fun g=>by
  unfold P.s_l01Digits_b0;dsimp only;rw[hs,if_neg (by simp),List.drop_length,show allD []=true from rfl,Bool.true_and];unfold okR
  by_cases h1:l=[]
  ·subst h1;rfl
  ·have hpos:0<l.length:=List.length_pos_iff.2 h1;have d1:(l.length:Int)>=1:=by omega
   rw[if_pos (decide_eq_true d1),decide_eq_true h1,Bool.true_and]
   by_cases h2:l.length<=200
   ·have d2:(l.length:Int)<=200:=by omega
    rw[if_pos (decide_eq_true d2),decide_eq_true h2,Bool.true_and]
    by_cases h3:l.length=1
    ·have d3:(((l.length:Nat):Int)==(1:Int))=true:=by simp [h3]
     rw[if_pos d3,decide_eq_true h3,Bool.true_or]
    ·have d3:¬(((l.length:Nat):Int)==(1:Int))=true:=by simp;omega
     have d4:(0:Int)<(l.length:Int):=by omega
     rw[if_neg d3,if_pos (decide_eq_true d4),decide_eq_false h3,Bool.false_or];have hb:byteAt s 0=(l[0].toNat:Int):=by
      unfold byteAt;rw[hL];simp [hpos]
     have hh:l.head? =some l[0]:=by
      cases l with
      |nil=>simp at h1
      |cons c r=>rfl
     rw[hb,hh]
     by_cases c1:l[0]=48
     ·rw[c1];rfl
     ·have:¬((l[0].toNat:Int)=48):=by
       intro q;apply c1;apply UInt8.toNat_inj.1;show _=48;omega
      rw[decide_eq_true (by simpa using c1)];simpa [bne]using this
   ·have d2:¬(l.length:Int)<=200:=by omega
    rw[if_neg (by simpa using d2),decide_eq_false h2,Bool.false_and]) (by omega)
 rw[List.drop_zero]at key;exact key
def P.s_l01Parse (k:Nat) (x:ByteArray×Unit):Option ((RB×Bool)×Unit):=
 if decide ((x.1.size:Int)>0)then if decide (0<(x.1.size:Int))then if(byteAt x.1 0)==45 then if decide (0<=(x.1.size:Int))then if decide ((x.1.size:Int)<=(x.1.size:Int))then if decide (1<=(x.1.size:Int))then(S.s_l01Cut (ByteArray.extract x.1 1 (Int.toNat (x.1.size:Int)),47,())).bind fun y0=>if decide ((y0.1.length:Int)>2)then some (((false,[],[]),false),())else if decide (0<(y0.1.length:Int))then(S.s_l01Digits (y0.1.getD 0 (bs []),())).bind fun y1=>if !y1.1 then some (((false,[],[]),false),())else if decide (0<(y0.1.length:Int))then(S.s_l01NatRead (y0.1.getD 0 (bs []),())).bind fun y2=>if(byteAt x.1 0)==45 then if(y2.1.length:Int)==0 then some (((false,[],[]),false),())else if(y0.1.length:Int)==1 then some ((((byteAt x.1 0)==45,y2.1,[1]),true),())else if decide (1<(y0.1.length:Int))then(S.s_l01Digits (y0.1.getD 1 (bs []),())).bind fun y3=>if !y3.1 then some (((false,[],[]),false),())else if decide (1<(y0.1.length:Int))then(S.s_l01NatRead (y0.1.getD 1 (bs []),())).bind fun y4=>(S.s_l01Cmp (y4.1,[1],())).bind fun y5=>if decide (y5.1<=0)then some (((false,[],[]),false),())else(S.s_l01Gcd (y2.1,y4.1,())).bind fun y6=>(S.s_l01Cmp (y6.1,[1],())).bind fun y7=>if y7.1 != 0 then some (((false,[],[]),false),())else some ((((byteAt x.1 0)==45,y2.1,y4.1),true),())else none else none else if(y0.1.length:Int)==1 then some ((((byteAt x.1 0)==45,y2.1,[1]),true),())else if decide (1<(y0.1.length:Int))then(S.s_l01Digits (y0.1.getD 1 (bs []),())).bind fun y8=>if !y8.1 then some (((false,[],[]),false),())else if decide (1<(y0.1.length:Int))then(S.s_l01NatRead (y0.1.getD 1 (bs []),())).bind fun y9=>(S.s_l01Cmp (y9.1,[1],())).bind fun y10=>if decide (y10.1<=0)then some (((false,[],[]),false),())else(S.s_l01Gcd (y2.1,y9.1,())).bind fun y11=>(S.s_l01Cmp (y11.1,[1],())).bind fun y12=>if y12.1 != 0 then some (((false,[],[]),false),())else some ((((byteAt x.1 0)==45,y2.1,y9.1),true),())else none else none else none else none else none else none else none else(S.s_l01Cut (x.1,47,())).bind fun y13=>if decide ((y13.1.length:Int)>2)then some (((false,[],[]),false),())else if decide (0<(y13.1.length:Int))then(S.s_l01Digits (y13.1.getD 0 (bs []),())).bind fun y14=>if !y14.1 then some (((false,[],[]),false),())else if decide (0<(y13.1.length:Int))then(S.s_l01NatRead (y13.1.getD 0 (bs []),())).bind fun y15=>if(byteAt x.1 0)==45 then if(y15.1.length:Int)==0 then some (((false,[],[]),false),())else if(y13.1.length:Int)==1 then some ((((byteAt x.1 0)==45,y15.1,[1]),true),())else if decide (1<(y13.1.length:Int))then(S.s_l01Digits (y13.1.getD 1 (bs []),())).bind fun y16=>if !y16.1 then some (((false,[],[]),false),())else if decide (1<(y13.1.length:Int))then(S.s_l01NatRead (y13.1.getD 1 (bs []),())).bind fun y17=>(S.s_l01Cmp (y17.1,[1],())).bind fun y18=>if decide (y18.1<=0)then some (((false,[],[]),false),())else(S.s_l01Gcd (y15.1,y17.1,())).bind fun y19=>(S.s_l01Cmp (y19.1,[1],())).bind fun y20=>if y20.1 != 0 then some (((false,[],[]),false),())else some ((((byteAt x.1 0)==45,y15.1,y17.1),true),())else none else none else if(y13.1.length:Int)==1 then some ((((byteAt x.1 0)==45,y15.1,[1]),true),())else if decide (1<(y13.1.length:Int))then(S.s_l01Digits (y13.1.getD 1 (bs []),())).bind fun y21=>if !y21.1 then some (((false,[],[]),false),())else if decide (1<(y13.1.length:Int))then(S.s_l01NatRead (y13.1.getD 1 (bs []),())).bind fun y22=>(S.s_l01Cmp (y22.1,[1],())).bind fun y23=>if decide (y23.1<=0)then some (((false,[],[]),false),())else(S.s_l01Gcd (y15.1,y22.1,())).bind fun y24=>(S.s_l01Cmp (y24.1,[1],())).bind fun y25=>if y25.1 != 0 then some (((false,[],[]),false),())else some ((((byteAt x.1 0)==45,y15.1,y22.1),true),())else none else none else none else none else none else(S.s_l01Cut (x.1,47,())).bind fun y26=>if decide ((y26.1.length:Int)>2)then some (((false,[],[]),false),())else if decide (0<(y26.1.length:Int))then(S.s_l01Digits (y26.1.getD 0 (bs []),())).bind fun y27=>if !y27.1 then some (((false,[],[]),false),())else if decide (0<(y26.1.length:Int))then(S.s_l01NatRead (y26.1.getD 0 (bs []),())).bind fun y28=>if(y26.1.length:Int)==1 then some (((false,y28.1,[1]),true),())else if decide (1<(y26.1.length:Int))then(S.s_l01Digits (y26.1.getD 1 (bs []),())).bind fun y29=>if !y29.1 then some (((false,[],[]),false),())else if decide (1<(y26.1.length:Int))then(S.s_l01NatRead (y26.1.getD 1 (bs []),())).bind fun y30=>(S.s_l01Cmp (y30.1,[1],())).bind fun y31=>if decide (y31.1<=0)then some (((false,[],[]),false),())else(S.s_l01Gcd (y28.1,y30.1,())).bind fun y32=>(S.s_l01Cmp (y32.1,[1],())).bind fun y33=>if y33.1 != 0 then some (((false,[],[]),false),())else some (((false,y28.1,y30.1),true),())else none else none else none else none
theorem pp_sign (T:ByteArray) (n:Bool) (hsz:T.size<=1000000):
  (Option.bind (S.s_l01Cut (T,((47:Int),()))) (fun(z0:((List ByteArray)×Unit))=>(if((decide (((List.length z0.1):Int)>(2:Int)))=true)then(some (((false,(([]:List Int),([]:List Int))),false),()))
 else(if((decide ((0:Int)<((List.length z0.1):Int)))=true)then(Option.bind (S.s_l01Digits ((List.getD z0.1 (0:Nat) (Go.Cm.bs [])),())) (fun(z1:(Bool×Unit))=>(if((!z1.1)=true)then(some (((false,(([]:List Int),([]:List Int))),false),()))
 else(if((decide ((0:Int)<((List.length z0.1):Int)))=true)then(Option.bind (S.s_l01NatRead ((List.getD z0.1 (0:Nat) (Go.Cm.bs [])),())) (fun(z2:((List Int)×Unit))=>(if(n=true)then(if((((List.length z2.1):Int)==(0:Int))=true)then(some (((false,(([]:List Int),([]:List Int))),false),()))
 else(if((((List.length z0.1):Int)==(1:Int))=true)then(some (((n,(z2.1,((1:Int)::([]:List Int)))),true),()))
 else(if((decide ((1:Int)<((List.length z0.1):Int)))=true)then(Option.bind (S.s_l01Digits ((List.getD z0.1 (1:Nat) (Go.Cm.bs [])),())) (fun(z3:(Bool×Unit))=>(if((!z3.1)=true)then(some (((false,(([]:List Int),([]:List Int))),false),()))
 else(if((decide ((1:Int)<((List.length z0.1):Int)))=true)then(Option.bind (S.s_l01NatRead ((List.getD z0.1 (1:Nat) (Go.Cm.bs [])),())) (fun(z4:((List Int)×Unit))=>(Option.bind (S.s_l01Cmp (z4.1,(((1:Int)::([]:List Int)),()))) (fun(z5:(Int×Unit))=>(if((decide (z5.1<=(0:Int)))=true)then(some (((false,(([]:List Int),([]:List Int))),false),()))
 else(Option.bind (S.s_l01Gcd (z2.1,(z4.1,()))) (fun(z6:((List Int)×Unit))=>(Option.bind (S.s_l01Cmp (z6.1,(((1:Int)::([]:List Int)),()))) (fun(z7:(Int×Unit))=>(if((z7.1 != (0:Int))=true)then(some (((false,(([]:List Int),([]:List Int))),false),()))
 else(some (((n,(z2.1,z4.1)),true),()))))))))))))
 else none))))
 else none)))
 else(if((((List.length z0.1):Int)==(1:Int))=true)then(some (((n,(z2.1,((1:Int)::([]:List Int)))),true),()))
 else(if((decide ((1:Int)<((List.length z0.1):Int)))=true)then(Option.bind (S.s_l01Digits ((List.getD z0.1 (1:Nat) (Go.Cm.bs [])),())) (fun(z8:(Bool×Unit))=>(if((!z8.1)=true)then(some (((false,(([]:List Int),([]:List Int))),false),()))
 else(if((decide ((1:Int)<((List.length z0.1):Int)))=true)then(Option.bind (S.s_l01NatRead ((List.getD z0.1 (1:Nat) (Go.Cm.bs [])),())) (fun(z9:((List Int)×Unit))=>(Option.bind (S.s_l01Cmp (z9.1,(((1:Int)::([]:List Int)),()))) (fun(z10:(Int×Unit))=>(if((decide (z10.1<=(0:Int)))=true)then(some (((false,(([]:List Int),([]:List Int))),false),()))
 else(Option.bind (S.s_l01Gcd (z2.1,(z9.1,()))) (fun(z11:((List Int)×Unit))=>(Option.bind (S.s_l01Cmp (z11.1,(((1:Int)::([]:List Int)),()))) (fun(z12:(Int×Unit))=>(if((z12.1 != (0:Int))=true)then(some (((false,(([]:List Int),([]:List Int))),false),()))
 else(some (((n,(z2.1,z9.1)),true),()))))))))))))
 else none))))
 else none)))))
 else none))))
 else none))))=some ((rp B10 (rdBody n (cutP 47 T.data.toList)).1,(rdBody n (cutP 47 T.data.toList)).2),()):=by
 have hbad:((false,(([]:List Int),([]:List Int))),false)=(rp B10 noQ.1,noQ.2):=by
  unfold noQ rp;dsimp only;rw[nd_zero B10_le]
 have hcut:S.s_l01Cut (T,(47,()))=some ((cutUp T 47 (T.size+1)).1,()):=by
  unfold S.s_l01Cut;exact if_pos hsz
 have hp:(cutUp T 47 (T.size+1)).1.map (·.data.toList)=pieces 47 T.data.toList:=cutUp_pieces T 47;have hlen:∀A∈(cutUp T 47 (T.size+1)).1,A.data.toList.length<=1000000:=by
  intro A hA;have h1:=pieces_len 47 T.data.toList A.data.toList (by rw[<-hp];exact List.mem_map_of_mem hA);have h2:T.size=T.data.toList.length:=by rw[Array.length_toList];rfl
  omega
 rw[hcut,Option.bind_some,hbad];generalize (cutUp T 47 (T.size+1)).1=ps at*;rw[pieces_cutP]at hp;generalize hc:cutP 47 T.data.toList=c at*;have hDig:∀A∈ps,S.s_l01Digits (A,())=some (okN A.data.toList,()):=by
  intro A hA;have h1:=hlen A hA;have h2:A.size=A.data.toList.length:=by rw[Array.length_toList];rfl
  unfold S.s_l01Digits;exact if_pos (by dsimp only;omega)
 have hRead:∀A∈ps,okN A.data.toList=true->S.s_l01NatRead (A,())=some (nd B10 (dv A.data.toList),()):=by
  intro A hA hok;have h1:=okN_allD hok;unfold S.s_l01NatRead;exact if_pos ⟨h1.1,by dsimp only;omega⟩
 have hz:∀m:Nat,(((nd B10 m).length:Int)==0)=decide (m=0):=by
  intro m;have:=canon_nil B10_le (canon_nd B10_le m);rw[dval_nd B10_le]at this
  by_cases h0:m=0
  ·rw[this.2 h0,h0];rfl
  ·have hne:=fun q=>h0 (this.1 q)
   rw[decide_eq_false h0];simpa using hne
 have hone:([1]:List Int)=nd B10 1:=(nd_one B10_le).symm;unfold rdBody;cases hf:c.2.2
 ·
  rw[hf,if_neg (by decide)]at hp;obtain⟨A,rfl,hA⟩:∃A,ps=[A]/\A.data.toList=c.1:=by
   exact List.map_eq_singleton_iff.1 hp
  have hd:=hDig A (by simp);have hr:=hRead A (by simp);rw[hA]at hd hr;have l1:¬(((List.length [A]:Nat):Int)>2):=by simp
  have l2:(0:Int)<((List.length [A]:Nat):Int):=by simp
  have l3:(((List.length [A]:Nat):Int)==1)=true:=rfl;simp only[l1,l2,l3,decide_true,decide_false,if_true,if_false,Bool.false_eq_true,List.getD_cons_zero];rw[hd,Option.bind_some];dsimp only;cases hok:okN c.1
  ·rw[if_pos (show(!false)=true by rfl),if_neg (fun q=>by cases q.1)]
  ·rw[if_neg (show ¬((!true)=true) by decide),hr hok,Option.bind_some];dsimp only;rw[hz];cases n
   ·rw[if_neg (show ¬((false:Bool)=true) by decide),if_pos ⟨rfl,fun q=>by cases q.1⟩,hone];rfl
   ·rw[if_pos rfl]
    by_cases h0:dv c.1=0
    ·rw[if_pos (decide_eq_true h0),if_neg (fun q=>q.2 ⟨rfl,h0⟩)]
    ·rw[if_neg (by simpa using h0),if_pos ⟨rfl,fun q=>h0 q.2⟩,hone];rfl
 ·rw[hf,if_pos rfl,pieces_cutP]at hp;cases hf2:(cutP 47 c.2.1).2.2
  ·rw[hf2,if_neg (by decide)]at hp;have hy:(cutP 47 c.2.1).1=c.2.1:=((cutP_index 47 c.2.1).1 hf2).2.1;rw[hy]at hp;obtain⟨A,B,rfl,hA,hB⟩:∃A B,ps=[A,B]/\A.data.toList=c.1/\B.data.toList=c.2.1:=by
    obtain⟨A,q,rfl,hA,hq⟩:=List.map_eq_cons_iff.1 hp;obtain⟨B,rfl,hB⟩:=List.map_eq_singleton_iff.1 hq;exact⟨A,B,rfl,hA,hB⟩
   have hd:=hDig A (by simp);have hr:=hRead A (by simp);have hd2:=hDig B (by simp);have hr2:=hRead B (by simp);rw[hA]at hd hr;rw[hB]at hd2 hr2;have l1:¬(((List.length [A,B]:Nat):Int)>2):=by simp
   have l2:(0:Int)<((List.length [A,B]:Nat):Int):=by simp
   have l3:(((List.length [A,B]:Nat):Int)==1)=false:=rfl;have l4:(1:Int)<((List.length [A,B]:Nat):Int):=by simp
   simp only[l1,l2,l3,l4,decide_true,decide_false,if_true,if_false,Bool.false_eq_true,List.getD_cons_zero,List.getD_cons_succ];rw[hd,Option.bind_some];dsimp only;cases hok:okN c.1
   ·rw[if_pos (show(!false)=true by rfl),if_neg (fun q=>by cases q.1)]
   ·rw[if_neg (show ¬((!true)=true) by decide),hr hok,Option.bind_some];dsimp only;have la:=nd_len200 (B:=B10) (by decide) (okN_lt hok);have hrest:∀(m:Bool),¬(m=true/\dv c.1=0)->(Option.bind (S.s_l01Digits (B,())) (fun(w0:(Bool×Unit))=>(if((!w0.1)=true)then(some ((rp B10 noQ.1,noQ.2),()))
 else(Option.bind (S.s_l01NatRead (B,())) (fun(w1:((List Int)×Unit))=>(Option.bind (S.s_l01Cmp (w1.1,(((1:Int)::([]:List Int)),()))) (fun(w2:(Int×Unit))=>(if((decide (w2.1<=(0:Int)))=true)then(some ((rp B10 noQ.1,noQ.2),()))
 else(Option.bind (S.s_l01Gcd (nd B10 (dv c.1),(w1.1,()))) (fun(w3:((List Int)×Unit))=>(Option.bind (S.s_l01Cmp (w3.1,(((1:Int)::([]:List Int)),()))) (fun(w4:(Int×Unit))=>(if((w4.1 != (0:Int))=true)then(some ((rp B10 noQ.1,noQ.2),()))
 else(some (((m,(nd B10 (dv c.1),w1.1)),true),())))))))))))))))=some ((rp B10 (if okN c.2.1=true/\1<dv c.2.1/\Nat.gcd (dv c.1) (dv c.2.1)=1 then((m,(dv c.1,dv c.2.1)),true)else noQ).1,(if okN c.2.1=true/\1<dv c.2.1/\Nat.gcd (dv c.1) (dv c.2.1)=1 then((m,(dv c.1,dv c.2.1)),true)else noQ).2),()):=by
     intro m hm;rw[hd2,Option.bind_some];dsimp only;cases hb:okN c.2.1
     ·have hx:¬((false:Bool)=true/\1<dv c.2.1/\Nat.gcd (dv c.1) (dv c.2.1)=1):=fun q=>by cases q.1
      rw[if_pos (show(!false)=true by rfl),if_neg hx]
     ·have lb:=nd_len200 (B:=B10) (by decide) (okN_lt hb);rw[if_neg (show ¬((!true)=true) by decide),hr2 hb,Option.bind_some];dsimp only;have e1:S.s_l01Cmp (nd B10 (dv c.2.1),([1],()))=some (cmpN (dv c.2.1) 1,()):=by
       unfold S.s_l01Cmp;dsimp only;rw[if_pos ⟨canon_nd B10_le _,canon_one B10_le,by omega⟩,dval_nd B10_le,dval_one]
      have e2:S.s_l01Gcd (nd B10 (dv c.1),(nd B10 (dv c.2.1),()))=some (nd B10 (Nat.gcd (dv c.1) (dv c.2.1)),()):=by
       unfold S.s_l01Gcd;dsimp only;rw[if_pos ⟨canon_nd B10_le _,canon_nd B10_le _,by omega,by omega⟩,dval_nd B10_le,dval_nd B10_le]
      rw[e1,Option.bind_some];dsimp only
      by_cases h1:1<dv c.2.1
      ·have hcm:¬(cmpN (dv c.2.1) 1<=0):=by
        have:=(cmpN_gt (a:=dv c.2.1) (b:=1)).2 h1;omega
       have lg:(nd B10 (Nat.gcd (dv c.1) (dv c.2.1))).length<=200:=Nat.le_trans (nd_shorter' B10_le (Nat.le_of_dvd (by omega) (Nat.gcd_dvd_right _ _))) lb;have e3:S.s_l01Cmp (nd B10 (Nat.gcd (dv c.1) (dv c.2.1)),([1],()))=some (cmpN (Nat.gcd (dv c.1) (dv c.2.1)) 1,()):=by
        unfold S.s_l01Cmp;dsimp only;rw[if_pos ⟨canon_nd B10_le _,canon_one B10_le,by omega⟩,dval_nd B10_le,dval_one]
       rw[if_neg (by simpa using hcm),e2,Option.bind_some];dsimp only;rw[e3,Option.bind_some];dsimp only
       by_cases hg:Nat.gcd (dv c.1) (dv c.2.1)=1
       ·rw[if_neg (by simpa using cmpN_zero.2 hg),if_pos ⟨rfl,h1,hg⟩];rfl
       ·rw[if_pos (by simpa using fun q=>hg (cmpN_zero.1 q)),if_neg (fun q=>hg q.2.2)]
      ·have hcm:cmpN (dv c.2.1) 1<=0:=by
        have h2:¬(cmpN (dv c.2.1) 1>0):=fun q=>h1 ((cmpN_gt (a:=dv c.2.1) (b:=1)).1 q)
        omega
       rw[if_pos (decide_eq_true hcm),if_neg (fun q=>h1 q.2.1)]
    rw[hz];cases n
    ·have hm:¬((false:Bool)=true/\dv c.1=0):=fun q=>by cases q.1
     rw[if_neg (show ¬((false:Bool)=true) by decide),if_pos ⟨rfl,hm⟩];exact hrest false hm
    ·rw[if_pos rfl]
     by_cases h0:dv c.1=0
     ·rw[if_pos (decide_eq_true h0),if_neg (fun q=>q.2 ⟨rfl,h0⟩)]
     ·have hm:¬((true:Bool)=true/\dv c.1=0):=fun q=>h0 q.2
      rw[if_neg (by simpa using h0),if_pos ⟨rfl,hm⟩];exact hrest true hm
  ·
   rw[hf2,if_pos rfl]at hp;have hl:ps.length=2+(pieces 47 (cutP 47 c.2.1).2.1).length:=by
    have:=congrArg List.length hp;simp at this;omega
   have hl2:(pieces 47 (cutP 47 c.2.1).2.1).length≠0:=fun q=>pieces_ne 47 _ (List.eq_nil_of_length_eq_zero q)
   have l1:((ps.length:Nat):Int)>2:=by omega
   have hx:¬(okN c.2.1=true/\1<dv c.2.1/\Nat.gcd (dv c.1) (dv c.2.1)=1):=fun q=>by
    have:=cutP_allD (okN_allD q.1).1;rw[hf2]at this;cases this
   rw[if_pos (decide_eq_true l1),if_pos rfl,if_neg hx];split<;>rfl
theorem pp_plain (T:ByteArray) (hsz:T.size<=1000000):
  (Option.bind (S.s_l01Cut (T,((47:Int),()))) (fun(z0:((List ByteArray)×Unit))=>(if((decide (((List.length z0.1):Int)>(2:Int)))=true)then(some (((false,(([]:List Int),([]:List Int))),false),()))
 else(if((decide ((0:Int)<((List.length z0.1):Int)))=true)then(Option.bind (S.s_l01Digits ((List.getD z0.1 (0:Nat) (Go.Cm.bs [])),())) (fun(z1:(Bool×Unit))=>(if((!z1.1)=true)then(some (((false,(([]:List Int),([]:List Int))),false),()))
 else(if((decide ((0:Int)<((List.length z0.1):Int)))=true)then(Option.bind (S.s_l01NatRead ((List.getD z0.1 (0:Nat) (Go.Cm.bs [])),())) (fun(z2:((List Int)×Unit))=>(if((((List.length z0.1):Int)==(1:Int))=true)then(some (((false,(z2.1,((1:Int)::([]:List Int)))),true),()))
 else(if((decide ((1:Int)<((List.length z0.1):Int)))=true)then(Option.bind (S.s_l01Digits ((List.getD z0.1 (1:Nat) (Go.Cm.bs [])),())) (fun(z3:(Bool×Unit))=>(if((!z3.1)=true)then(some (((false,(([]:List Int),([]:List Int))),false),()))
 else(if((decide ((1:Int)<((List.length z0.1):Int)))=true)then(Option.bind (S.s_l01NatRead ((List.getD z0.1 (1:Nat) (Go.Cm.bs [])),())) (fun(z4:((List Int)×Unit))=>(Option.bind (S.s_l01Cmp (z4.1,(((1:Int)::([]:List Int)),()))) (fun(z5:(Int×Unit))=>(if((decide (z5.1<=(0:Int)))=true)then(some (((false,(([]:List Int),([]:List Int))),false),()))
 else(Option.bind (S.s_l01Gcd (z2.1,(z4.1,()))) (fun(z6:((List Int)×Unit))=>(Option.bind (S.s_l01Cmp (z6.1,(((1:Int)::([]:List Int)),()))) (fun(z7:(Int×Unit))=>(if((z7.1 != (0:Int))=true)then(some (((false,(([]:List Int),([]:List Int))),false),()))
 else(some (((false,(z2.1,z4.1)),true),()))))))))))))
 else none))))
 else none))))
 else none))))
 else none))))=some ((rp B10 (rdBody false (cutP 47 T.data.toList)).1,(rdBody false (cutP 47 T.data.toList)).2),()):=by
 have hbad:((false,(([]:List Int),([]:List Int))),false)=(rp B10 noQ.1,noQ.2):=by
  unfold noQ rp;dsimp only;rw[nd_zero B10_le]
 have hcut:S.s_l01Cut (T,(47,()))=some ((cutUp T 47 (T.size+1)).1,()):=by
  unfold S.s_l01Cut;exact if_pos hsz
 have hp:(cutUp T 47 (T.size+1)).1.map (·.data.toList)=pieces 47 T.data.toList:=cutUp_pieces T 47;have hlen:∀A∈(cutUp T 47 (T.size+1)).1,A.data.toList.length<=1000000:=by
  intro A hA;have h1:=pieces_len 47 T.data.toList A.data.toList (by rw[<-hp];exact List.mem_map_of_mem hA);have h2:T.size=T.data.toList.length:=by rw[Array.length_toList];rfl
  omega
 rw[hcut,Option.bind_some,hbad];generalize (cutUp T 47 (T.size+1)).1=ps at*;rw[pieces_cutP]at hp;generalize hc:cutP 47 T.data.toList=c at*;have hDig:∀A∈ps,S.s_l01Digits (A,())=some (okN A.data.toList,()):=by
  intro A hA;have h1:=hlen A hA;have h2:A.size=A.data.toList.length:=by rw[Array.length_toList];rfl
  unfold S.s_l01Digits;exact if_pos (by dsimp only;omega)
 have hRead:∀A∈ps,okN A.data.toList=true->S.s_l01NatRead (A,())=some (nd B10 (dv A.data.toList),()):=by
  intro A hA hok;have h1:=okN_allD hok;unfold S.s_l01NatRead;exact if_pos ⟨h1.1,by dsimp only;omega⟩
 have hz:∀m:Nat,(((nd B10 m).length:Int)==0)=decide (m=0):=by
  intro m;have:=canon_nil B10_le (canon_nd B10_le m);rw[dval_nd B10_le]at this
  by_cases h0:m=0
  ·rw[this.2 h0,h0];rfl
  ·have hne:=fun q=>h0 (this.1 q)
   rw[decide_eq_false h0];simpa using hne
 have hone:([1]:List Int)=nd B10 1:=(nd_one B10_le).symm;unfold rdBody;cases hf:c.2.2
 ·
  rw[hf,if_neg (by decide)]at hp;obtain⟨A,rfl,hA⟩:∃A,ps=[A]/\A.data.toList=c.1:=by
   exact List.map_eq_singleton_iff.1 hp
  have hd:=hDig A (by simp);have hr:=hRead A (by simp);rw[hA]at hd hr;have l1:¬(((List.length [A]:Nat):Int)>2):=by simp
  have l2:(0:Int)<((List.length [A]:Nat):Int):=by simp
  have l3:(((List.length [A]:Nat):Int)==1)=true:=rfl;simp only[l1,l2,l3,decide_true,decide_false,if_true,if_false,Bool.false_eq_true,List.getD_cons_zero];rw[hd,Option.bind_some];dsimp only;cases hok:okN c.1
  ·rw[if_pos (show(!false)=true by rfl),if_neg (fun q=>by cases q.1)]
  ·rw[if_neg (show ¬((!true)=true) by decide),hr hok,Option.bind_some];dsimp only;rw[if_pos ⟨rfl,fun q=>by cases q.1⟩,hone];rfl
 ·rw[hf,if_pos rfl,pieces_cutP]at hp;cases hf2:(cutP 47 c.2.1).2.2
  ·rw[hf2,if_neg (by decide)]at hp;have hy:(cutP 47 c.2.1).1=c.2.1:=((cutP_index 47 c.2.1).1 hf2).2.1;rw[hy]at hp;obtain⟨A,B,rfl,hA,hB⟩:∃A B,ps=[A,B]/\A.data.toList=c.1/\B.data.toList=c.2.1:=by
    obtain⟨A,q,rfl,hA,hq⟩:=List.map_eq_cons_iff.1 hp;obtain⟨B,rfl,hB⟩:=List.map_eq_singleton_iff.1 hq;exact⟨A,B,rfl,hA,hB⟩
   have hd:=hDig A (by simp);have hr:=hRead A (by simp);have hd2:=hDig B (by simp);have hr2:=hRead B (by simp);rw[hA]at hd hr;rw[hB]at hd2 hr2;have l1:¬(((List.length [A,B]:Nat):Int)>2):=by simp
   have l2:(0:Int)<((List.length [A,B]:Nat):Int):=by simp
   have l3:(((List.length [A,B]:Nat):Int)==1)=false:=rfl;have l4:(1:Int)<((List.length [A,B]:Nat):Int):=by simp
   simp only[l1,l2,l3,l4,decide_true,decide_false,if_true,if_false,Bool.false_eq_true,List.getD_cons_zero,List.getD_cons_succ];rw[hd,Option.bind_some];dsimp only;cases hok:okN c.1
   ·rw[if_pos (show(!false)=true by rfl),if_neg (fun q=>by cases q.1)]
   ·rw[if_neg (show ¬((!true)=true) by decide),hr hok,Option.bind_some];dsimp only;have la:=nd_len200 (B:=B10) (by decide) (okN_lt hok);have hrest:∀(m:Bool),¬(m=true/\dv c.1=0)->(Option.bind (S.s_l01Digits (B,())) (fun(w0:(Bool×Unit))=>(if((!w0.1)=true)then(some ((rp B10 noQ.1,noQ.2),()))
 else(Option.bind (S.s_l01NatRead (B,())) (fun(w1:((List Int)×Unit))=>(Option.bind (S.s_l01Cmp (w1.1,(((1:Int)::([]:List Int)),()))) (fun(w2:(Int×Unit))=>(if((decide (w2.1<=(0:Int)))=true)then(some ((rp B10 noQ.1,noQ.2),()))
 else(Option.bind (S.s_l01Gcd (nd B10 (dv c.1),(w1.1,()))) (fun(w3:((List Int)×Unit))=>(Option.bind (S.s_l01Cmp (w3.1,(((1:Int)::([]:List Int)),()))) (fun(w4:(Int×Unit))=>(if((w4.1 != (0:Int))=true)then(some ((rp B10 noQ.1,noQ.2),()))
 else(some (((m,(nd B10 (dv c.1),w1.1)),true),())))))))))))))))=some ((rp B10 (if okN c.2.1=true/\1<dv c.2.1/\Nat.gcd (dv c.1) (dv c.2.1)=1 then((m,(dv c.1,dv c.2.1)),true)else noQ).1,(if okN c.2.1=true/\1<dv c.2.1/\Nat.gcd (dv c.1) (dv c.2.1)=1 then((m,(dv c.1,dv c.2.1)),true)else noQ).2),()):=by
     intro m hm;rw[hd2,Option.bind_some];dsimp only;cases hb:okN c.2.1
     ·have hx:¬((false:Bool)=true/\1<dv c.2.1/\Nat.gcd (dv c.1) (dv c.2.1)=1):=fun q=>by cases q.1
      rw[if_pos (show(!false)=true by rfl),if_neg hx]
     ·have lb:=nd_len200 (B:=B10) (by decide) (okN_lt hb);rw[if_neg (show ¬((!true)=true) by decide),hr2 hb,Option.bind_some];dsimp only;have e1:S.s_l01Cmp (nd B10 (dv c.2.1),([1],()))=some (cmpN (dv c.2.1) 1,()):=by
       unfold S.s_l01Cmp;dsimp only;rw[if_pos ⟨canon_nd B10_le _,canon_one B10_le,by omega⟩,dval_nd B10_le,dval_one]
      have e2:S.s_l01Gcd (nd B10 (dv c.1),(nd B10 (dv c.2.1),()))=some (nd B10 (Nat.gcd (dv c.1) (dv c.2.1)),()):=by
       unfold S.s_l01Gcd;dsimp only;rw[if_pos ⟨canon_nd B10_le _,canon_nd B10_le _,by omega,by omega⟩,dval_nd B10_le,dval_nd B10_le]
      rw[e1,Option.bind_some];dsimp only
      by_cases h1:1<dv c.2.1
      ·have hcm:¬(cmpN (dv c.2.1) 1<=0):=by
        have:=(cmpN_gt (a:=dv c.2.1) (b:=1)).2 h1;omega
       have lg:(nd B10 (Nat.gcd (dv c.1) (dv c.2.1))).length<=200:=Nat.le_trans (nd_shorter' B10_le (Nat.le_of_dvd (by omega) (Nat.gcd_dvd_right _ _))) lb;have e3:S.s_l01Cmp (nd B10 (Nat.gcd (dv c.1) (dv c.2.1)),([1],()))=some (cmpN (Nat.gcd (dv c.1) (dv c.2.1)) 1,()):=by
        unfold S.s_l01Cmp;dsimp only;rw[if_pos ⟨canon_nd B10_le _,canon_one B10_le,by omega⟩,dval_nd B10_le,dval_one]
       rw[if_neg (by simpa using hcm),e2,Option.bind_some];dsimp only;rw[e3,Option.bind_some];dsimp only
       by_cases hg:Nat.gcd (dv c.1) (dv c.2.1)=1
       ·rw[if_neg (by simpa using cmpN_zero.2 hg),if_pos ⟨rfl,h1,hg⟩];rfl
       ·rw[if_pos (by simpa using fun q=>hg (cmpN_zero.1 q)),if_neg (fun q=>hg q.2.2)]
      ·have hcm:cmpN (dv c.2.1) 1<=0:=by
        have h2:¬(cmpN (dv c.2.1) 1>0):=fun q=>h1 ((cmpN_gt (a:=dv c.2.1) (b:=1)).1 q)
        omega
       rw[if_pos (decide_eq_true hcm),if_neg (fun q=>h1 q.2.1)]
    have hm:¬((false:Bool)=true/\dv c.1=0):=fun q=>by cases q.1
    rw[if_pos ⟨rfl,fun q=>q.1⟩];exact hrest false hm
  ·
   rw[hf2,if_pos rfl]at hp;have hl:ps.length=2+(pieces 47 (cutP 47 c.2.1).2.1).length:=by
    have:=congrArg List.length hp;simp at this;omega
   have hl2:(pieces 47 (cutP 47 c.2.1).2.1).length≠0:=fun q=>pieces_ne 47 _ (List.eq_nil_of_length_eq_zero q)
   have l1:((ps.length:Nat):Int)>2:=by omega
   have hx:¬(okN c.2.1=true/\1<dv c.2.1/\Nat.gcd (dv c.1) (dv c.2.1)=1):=fun q=>by
    have:=cutP_allD (okN_allD q.1).1;rw[hf2]at this;cases this
   rw[if_pos (decide_eq_true l1),if_pos rfl,if_neg hx];split<;>rfl
def S.s_l01Parse (x:(ByteArray×Unit)):(Option ((RB×Bool)×Unit)):=if x.1.size<=1000000 then some ((rp B10 (rdRat x.1.data.toList).1,(rdRat x.1.data.toList).2),())else none
theorem S.s_l01Parse_ok (x r) (h:S.s_l01Parse x=some r):∃k,P.s_l01Parse k x=some r:=by
 obtain⟨s,u⟩:=x;unfold S.s_l01Parse at h;dsimp only at h;split at h
 case isFalse=>cases h
 rename_i hsz;refine⟨0,?_⟩;rw[<-h];unfold P.s_l01Parse;dsimp only;have hs:s.size=s.data.toList.length:=by rw[Array.length_toList];rfl
 unfold rdRat
 by_cases h0:s.data.toList=[]
 ·have l1:¬((s.size:Int)>0):=by rw[hs,h0];simp
  rw[if_neg (by simpa using l1),h0,if_neg (by simp),<-h0];exact pp_plain s hsz
 ·have hpos:0<s.data.toList.length:=List.length_pos_iff.2 h0;have l1:(s.size:Int)>0:=by omega
  have l2:(0:Int)<(s.size:Int):=by omega
  have l3:(0:Int)<=(s.size:Int):=by omega
  have l4:(1:Int)<=(s.size:Int):=by omega
  have hb:byteAt s 0=(s.data.toList[0].toNat:Int):=congrArg (fun c:UInt8=>(c.toNat:Int)) (getD_cast s.data.toList 0 0 hpos);have hh:s.data.toList.head? =some s.data.toList[0]:=by
   generalize s.data.toList=l at*;cases l with
   |nil=>simp at h0
   |cons c r=>rfl
  rw[if_pos (decide_eq_true l1),if_pos (decide_eq_true l2),hh,Int.toNat_natCast]
  by_cases c1:s.data.toList[0]=45
  ·have hn:(byteAt s 0==45)=true:=by
    rw[hb,c1];rfl
   have hx:(ByteArray.extract s 1 s.size).data.toList=s.data.toList.tail:=by
    rw[ext_list,List.take_of_length_le (by omega),List.drop_one]
   have hxs:(ByteArray.extract s 1 s.size).size<=1000000:=by
    have:(ByteArray.extract s 1 s.size).size=(ByteArray.extract s 1 s.size).data.toList.length:=by rw[Array.length_toList];rfl
    rw[this,hx];simp;omega
   rw[hn,if_pos rfl,if_pos (decide_eq_true l3),if_pos (decide_eq_true (Int.le_refl _)),if_pos (decide_eq_true l4),if_pos (by rw[c1])];have:=pp_sign (ByteArray.extract s 1 s.size) true hxs;rw[hx]at this;exact this
  ·have hn:(byteAt s 0==45)=false:=by
    rw[hb,beq_eq_false_iff_ne];intro q;apply c1;apply UInt8.toNat_inj.1;show _=45;omega
   rw[hn,if_neg (show ¬((false:Bool)=true) by decide),if_neg (by rw[Option.some.injEq];exact c1)];exact pp_sign s false hsz
abbrev P.s_l01List_b0 (x1:Int×Int×List ByteArray×List RB×Unit) (g2:Int×Int×List ByteArray×List RB×Unit->Option ((List RB×Bool)×Unit)):Option ((List RB×Bool)×Unit):=
 if decide (x1.1<x1.2.1)then if decide (0<=x1.1)then if decide (x1.1<(x1.2.2.1.length:Int))then(S.s_l01Parse (x1.2.2.1.getD x1.1.toNat (bs []),())).bind fun y3=>if !y3.1.2 then some (([],false),())else if decide (((x1.2.2.2.1.length+(List.length [(y3.1.1.1,y3.1.1.2.1,y3.1.1.2.2)]))*56)<=140737488355328)then g2 (wrap .i64 (x1.1+1),x1.2.1,x1.2.2.1,x1.2.2.2.1++[(y3.1.1.1,y3.1.1.2.1,y3.1.1.2.2)],())else none else none else none else some ((x1.2.2.2.1,true),())
def P.s_l01List (k:Nat) (x:List ByteArray×Unit):Option ((List RB×Bool)×Unit):=
 if decide ((x.1.length:Int)>300)then some (([],false),())else loopP P.s_l01List_b0 k (0,(x.1.length:Int),x.1,[],())
open Classical in
def S.s_l01List (x:((List ByteArray)×Unit)):(Option (((List RB)×Bool)×Unit)):=if okT x.1=true then some (((rdAll x.1).1.map (rp B10),(rdAll x.1).2),())else none
theorem s_l01List_read (s:ByteArray) (h:s.size<=1000000):S.s_l01Parse (s,())=some ((rp B10 (rdRat s.data.toList).1,(rdRat s.data.toList).2),()):=by
 unfold S.s_l01Parse;exact if_pos (by dsimp only;omega)
theorem S.s_l01List_ok (x r) (h:S.s_l01List x=some r):∃k,P.s_l01List k x=some r:=by
 obtain⟨ls,u⟩:=x;unfold S.s_l01List at h;dsimp only at h;split at h
 case isFalse=>cases h
 rename_i hc;cases h;refine⟨ls.length+1,?_⟩;unfold P.s_l01List rdAll;dsimp only
 by_cases hl:(ls.length:Int)>300
 ·rw[if_pos (decide_eq_true hl),if_neg (show ¬(ls.length<=300/\(ls.all fun s=>(rdRat s.data.toList).2)=true)from fun z=>by omega)];rfl
 rw[if_neg (by simpa using hl)];have key:=loop_up0 (k:=ls.length+1) (b:=P.s_l01List_b0) (n:=ls.length) (st:=fun i=>((i:Int),(ls.length:Int),ls,(ls.take i).map (fun s=>rp B10 (rdRat s.data.toList).1),())) (F:=fun i=>some (if((ls.drop i).all fun s=>(rdRat s.data.toList).2)=true then(ls.map (fun s=>rp B10 (rdRat s.data.toList).1),true)else([],false),())) (fun i g hi hg=>by
  unfold P.s_l01List_b0;dsimp only at hg ⊢;have e1:(i:Int)<(ls.length:Int):=by omega
  have e2:(0:Int)<=(i:Int):=by omega
  simp only[e1,e2,decide_true,if_true];rw[getD_cast ls i _ hi,s_l01List_read _ (okT_get hc hi),Option.bind_some,List.drop_eq_getElem_cons hi,List.all_cons];dsimp only;cases hf:(rdRat ls[i].data.toList).2
  ·rw[if_pos (by rfl),if_neg (by simp)]
  ·rw[if_neg (by simp),wr (by omega) (by omega),Bool.true_and,<-hg];have e3:((List.map (fun s:ByteArray=>rp B10 (rdRat s.data.toList).1) (ls.take i)).length+1)*56<=140737488355328:=by
    rw[List.length_map,List.length_take];omega
   simp only[List.length_cons,List.length_nil,Nat.zero_add];rw[if_pos (decide_eq_true e3),List.take_add_one,List.getElem?_eq_getElem hi,Option.toList_some,List.map_append];rfl) (fun g=>by
  unfold P.s_l01List_b0;dsimp only;rw[if_neg (by simp),List.take_length,List.drop_length];rfl) (by omega)
 refine key.trans ?_;rw[List.drop_zero]
 by_cases ha:(ls.all fun s=>(rdRat s.data.toList).2)=true
 ·rw[if_pos ha,if_pos (show ls.length<=300/\(ls.all fun s=>(rdRat s.data.toList).2)=true from⟨by omega,ha⟩),List.map_map];rfl
 ·rw[if_neg ha,if_neg (fun z=>ha z.2)];rfl
def P.s_l01One (k:Nat) (x:Unit):Option (RB×Unit):=
 (S.s_l01Int (1,())).bind fun y0=>some ((y0.1.1,y0.1.2.1,y0.1.2.2),())
def S.s_l01One (x:Unit):(Option (RB×Unit)):=P.s_l01One 0 x
theorem S.s_l01One_ok (x r) (h:S.s_l01One x=some r):∃k,P.s_l01One k x=some r:=⟨0,h⟩
abbrev P.s_l01Total_b1 (x2:Int×Int×RB×List RB×RB×Unit) (g3:Int×Int×RB×List RB×RB×Unit->Option (RB×Unit)):Option (RB×Unit):=
 if decide (x2.1<x2.2.1)then if decide (0<=x2.1)then if decide (x2.1<(x2.2.2.2.1.length:Int))then(S.s_l01Sum ((x2.2.2.1.1,x2.2.2.1.2.1,x2.2.2.1.2.2),((x2.2.2.2.1.getD x2.1.toNat (false,[],[])).1,(x2.2.2.2.1.getD x2.1.toNat (false,[],[])).2.1,(x2.2.2.2.1.getD x2.1.toNat (false,[],[])).2.2),())).bind fun y4=>g3 (wrap .i64 (x2.1+1),x2.2.1,(y4.1.1,y4.1.2.1,y4.1.2.2),x2.2.2.2.1,(x2.2.2.2.2.1.1,x2.2.2.2.2.1.2.1,x2.2.2.2.2.1.2.2),())else none else none else some ((x2.2.2.1.1,x2.2.2.1.2.1,x2.2.2.1.2.2),())
def P.s_l01Total (k:Nat) (x:List RB×Unit):Option (RB×Unit):=
 (S.s_l01None ()).bind fun y0=>loopP P.s_l01Total_b1 k (0,(x.1.length:Int),(y0.1.1,y0.1.2.1,y0.1.2.2),x.1,(false,[],[]),())
open Classical in
def S.s_l01Total (x:((List RB)×Unit)):(Option (RB×Unit)):=if goodS B10 x.1 then some (rp B10 (sumQ (x.1.map (rv B10))),())else none
theorem s_l01Total_add (a b:Q3) (ha:lowb B10 40000000 (rp B10 a)=true) (hb:lowb B10 40000000 (rp B10 b)=true):S.s_l01Sum (rp B10 a,(rp B10 b,()))=some (rp B10 (addQ a b),()):=by
 unfold S.s_l01Sum;dsimp only;rw[if_pos ⟨ha,hb⟩,rv_rp B10_le,rv_rp B10_le]
theorem S.s_l01Total_ok (x r) (h:S.s_l01Total x=some r):∃k,P.s_l01Total k x=some r:=by
 obtain⟨xs,u⟩:=x;unfold S.s_l01Total at h;dsimp only at h;split at h
 case isFalse=>cases h
 rename_i hc;obtain⟨qs,rfl,hlen,hq,hg⟩:=hc;cases h;refine⟨qs.length+1,?_⟩;unfold P.s_l01Total;have hz:S.s_l01None ()=some (rp B10 zeroQ,()):=by rfl
 dsimp only;rw[hz,Option.bind_some,map_rv B10_le,List.length_map];have key:=loop_up0 (k:=qs.length+1) (b:=P.s_l01Total_b1) (n:=qs.length) (st:=fun i=>((i:Int),(qs.length:Int),rp B10 (sumQ (qs.take i)),qs.map (rp B10),(false,(([]:List Int),([]:List Int))),())) (F:=fun i=>some (rp B10 (sumQ qs),())) (fun i g hi hg'=>by
  unfold P.s_l01Total_b1;dsimp only at hg' ⊢;have e1:(i:Int)<(qs.length:Int):=by omega
  have e2:(0:Int)<=(i:Int):=by omega
  have e3:(i:Int)<((qs.map (rp B10)).length:Int):=by rw[List.length_map];omega
  rw[if_pos (decide_eq_true e1),if_pos (decide_eq_true e2),if_pos (decide_eq_true e3),getD_cast (qs.map (rp B10)) i _ (by rw[List.length_map];exact hi),List.getElem_map];have ea:=s_l01Total_add (sumQ (qs.take i)) qs[i] (lowb_rp9 (by decide) (hg i).1 (hg i).2 (by decide)) (lowb_rp9 (by decide) (hq _ (List.getElem_mem hi)).1 (hq _ (List.getElem_mem hi)).2 (by decide));rw[sumQ_take hi]at ea;show Option.bind (S.s_l01Sum (rp B10 (sumQ (qs.take i)),(rp B10 qs[i],()))) _=_;rw[ea,Option.bind_some,wr (by omega) (by omega)];exact hg') (fun g=>by
  unfold P.s_l01Total_b1;dsimp only;rw[if_neg (by simp),List.take_length]) (by omega)
 exact key
abbrev P.s_l01Positive_b0 (x1:Int×Int×List RB×Unit) (g2:Int×Int×List RB×Unit->Option (Bool×Unit)):Option (Bool×Unit):=
 if decide (x1.1<x1.2.1)then if decide (0<=x1.1)then if decide (x1.1<(x1.2.2.1.length:Int))then if(x1.2.2.1.getD x1.1.toNat (false,[],[])).1 then some (false,())else g2 (wrap .i64 (x1.1+1),x1.2.1,x1.2.2.1,())else none else none else some (true,())
def P.s_l01Positive (k:Nat) (x:List RB×Unit):Option (Bool×Unit):=
 loopP P.s_l01Positive_b0 k (0,(x.1.length:Int),x.1,())
def S.s_l01Positive (x:((List RB)×Unit)):(Option (Bool×Unit)):=if x.1.length<=1000000000 then some (!(x.1.any fun r=>r.1),())else none
theorem S.s_l01Positive_ok (x r) (h:S.s_l01Positive x=some r):∃k,P.s_l01Positive k x=some r:=by
 obtain⟨xs,u⟩:=x;unfold S.s_l01Positive at h;dsimp only at h;split at h
 case isFalse=>cases h
 rename_i hc;cases h;refine⟨xs.length+1,?_⟩;unfold P.s_l01Positive;have key:=loop_up0 (k:=xs.length+1) (b:=P.s_l01Positive_b0) (n:=xs.length) (st:=fun i=>((i:Int),(xs.length:Int),xs,())) (F:=fun i=>some (!((xs.drop i).any fun r=>r.1),())) (fun i g hi hg=>by
  unfold P.s_l01Positive_b0;dsimp only at hg ⊢;have e1:(i:Int)<(xs.length:Int):=by omega
  have e2:(0:Int)<=(i:Int):=by omega
  rw[if_pos (decide_eq_true e1),if_pos (decide_eq_true e2),if_pos (decide_eq_true e1),getD_cast xs i _ hi,List.drop_eq_getElem_cons hi,List.any_cons];cases hf:xs[i].1
  ·rw[if_neg (by decide),wr (by omega) (by omega),Bool.false_or];exact hg
  ·rw[if_pos rfl];rfl) (fun g=>by
  unfold P.s_l01Positive_b0;dsimp only;rw[if_neg (by simp),List.drop_length];rfl) (by omega)
 exact key
def P.s_l01Weights (k:Nat) (x:List RB×Unit):Option (Bool×Unit):=
 (S.s_l01Positive (x.1,())).bind fun y0=>if y0.1 then(S.s_l01Total (x.1,())).bind fun y1=>(S.s_l01One ()).bind fun y2=>(S.s_l01Equal ((y1.1.1,y1.1.2.1,y1.1.2.2),(y2.1.1,y2.1.2.1,y2.1.2.2),())).bind fun y3=>some (y3.1,())else some (false,())
open Classical in
def S.s_l01Weights (x:((List RB)×Unit)):(Option (Bool×Unit)):=if goodL B10 x.1 then some (isW (x.1.map (rv B10)),())else none
theorem S.s_l01Weights_ok (x r) (h:S.s_l01Weights x=some r):∃k,P.s_l01Weights k x=some r:=by
 obtain⟨xs,u⟩:=x;unfold S.s_l01Weights at h;dsimp only at h;split at h
 case isFalse=>cases h
 rename_i hc;obtain⟨qs,n,rfl,hg⟩:=hc;cases h;refine⟨0,?_⟩;rw[map_rv B10_le];unfold P.s_l01Weights S.s_l01Positive;dsimp only;have hlen:=good_len hg;rw[if_pos (by rw[List.length_map];omega),Option.bind_some,any_rp];dsimp only;unfold isW;have es:S.s_l01Total (qs.map (rp B10),())=some (rp B10 (sumQ qs),()):=by
  unfold S.s_l01Total;dsimp only;rw[if_pos (goodL_S ⟨qs,n,rfl,hg⟩),map_rv B10_le]
 have h1:S.s_l01One ()=some (rp B10 oneQ,()):=by rfl
 have eo:S.s_l01Equal (rp B10 (sumQ qs),(rp B10 oneQ,()))=some (isOneQ (sumQ qs),()):=by
  unfold S.s_l01Equal;dsimp only;rw[if_pos ⟨good_rok (by decide) hg,below_rok (B:=B10) (by decide) (oneQ_below (by decide))⟩,rv_rp B10_le,rv_rp B10_le];unfold isOneQ oneQ;dsimp only;rw[Nat.mul_one,Nat.one_mul]
 cases hm:(qs.any fun r=>r.1)
 ·rw[if_pos (show(!false)=true by rfl),es,Option.bind_some,h1,Option.bind_some];show Option.bind (S.s_l01Equal (rp B10 (sumQ qs),(rp B10 oneQ,()))) _=_;rw[eo,Option.bind_some];rfl
 ·rfl
abbrev s_l03Parse.A:=Int×Int×List (List ByteArray)×Int×List (List RB)×List (List RB)×Unit
abbrev s_l03Parse.B:=Option ((List (List RB)×Bool)×Unit)
abbrev P.s_l03Parse_b0 (x1:s_l03Parse.A) (g2:s_l03Parse.A->s_l03Parse.B):s_l03Parse.B:=
 if decide (x1.1<x1.2.1)then if decide (0<=x1.1)then if decide (x1.1<(x1.2.2.1.length:Int))then if(List.length (x1.2.2.1.getD x1.1.toNat []):Int) != x1.2.2.2.1 then some (([],false),())else if decide (0<=x1.1)then if decide (x1.1<(x1.2.2.1.length:Int))then(S.s_l01List (x1.2.2.1.getD x1.1.toNat [],())).bind fun y3=>if !y3.1.2 then some (([],false),())else(S.s_l01Weights (y3.1.1,())).bind fun y4=>if !y4.1 then some (([],false),())else if decide (((x1.2.2.2.2.2.1.length+(List.length [y3.1.1]))*24)<=140737488355328)then g2 (wrap .i64 (x1.1+1),x1.2.1,x1.2.2.1,x1.2.2.2.1,x1.2.2.2.2.1,x1.2.2.2.2.2.1++[y3.1.1],())else none else none else none else none else none else some ((x1.2.2.2.2.2.1,true),())
def P.s_l03Parse (k:Nat) (x:List (List ByteArray)×Unit):s_l03Parse.B:=
 if decide ((x.1.length:Int)<1)then some (([],false),())else if decide ((x.1.length:Int)>12)then some (([],false),())else loopP P.s_l03Parse_b0 k (0,(x.1.length:Int),x.1,(x.1.length:Int),[],[],())
def S.s_l03Parse (x:((List (List ByteArray))×Unit)):(Option (((List (List RB))×Bool)×Unit)):=if x.1.all okT=true then some (((chQ x.1).1.map (fun r=>r.map (rp B10)),(chQ x.1).2),())else none
theorem S.s_l03Parse_ok (x r) (h:S.s_l03Parse x=some r):∃k,P.s_l03Parse k x=some r:=by
 obtain⟨rows,u⟩:=x;unfold S.s_l03Parse at h;dsimp only at h;split at h
 case isFalse=>cases h
 rename_i hc;cases h;refine⟨rows.length+1,?_⟩;unfold P.s_l03Parse chQ;dsimp only
 by_cases h1:1<=rows.length
 case neg=>
  rw[if_pos (decide_eq_true (show(rows.length:Int)<1 by omega)),decide_eq_false h1];rfl
 rw[if_neg (by simpa using(show ¬(rows.length:Int)<1 by omega)),decide_eq_true h1]
 by_cases h2:rows.length<=12
 case neg=>
  rw[if_pos (decide_eq_true (show(rows.length:Int)>12 by omega)),decide_eq_false h2];rfl
 rw[if_neg (by simpa using(show ¬(rows.length:Int)>12 by omega)),decide_eq_true h2];simp only[Bool.true_and];have key:=loop_up0 (k:=rows.length+1) (b:=P.s_l03Parse_b0) (n:=rows.length) (st:=fun i=>((i:Int),(rows.length:Int),rows,(rows.length:Int),([]:List (List (Bool×(List Int×List Int)))),(rows.take i).map (fun r=>(rdAll r).1.map (rp B10)),())) (F:=fun i=>some (if((rows.drop i).all fun r=>decide (r.length=rows.length)&&(wtAll r).2)=true then(rows.map (fun r=>(rdAll r).1.map (rp B10)),true)else([],false),())) (fun i g hi hg'=>by
  have e1:(i:Int)<(rows.length:Int):=by omega
  have e2:(0:Int)<=(i:Int):=by omega
  have hr:okT rows[i]=true:=List.all_eq_true.1 hc _ (List.getElem_mem hi);have e4:(((rows.take i).map (fun r=>(rdAll r).1.map (rp B10))).length+1)*24<=140737488355328:=by
   rw[List.length_map,List.length_take];omega
  unfold P.s_l03Parse_b0;dsimp only at hg' ⊢;simp only[e1,e2,decide_true,if_true];rw[getD_cast rows i _ hi,List.drop_eq_getElem_cons hi,List.all_cons]
  by_cases hl:rows[i].length=rows.length
  case neg=>
   rw[if_pos (by simp;omega),decide_eq_false hl,Bool.false_and,Bool.false_and,if_neg (by decide)]
  rw[if_neg (by simp;omega),decide_eq_true hl,Bool.true_and,wtAll_snd];have ew:S.s_l01List (rows[i],())=some (((rdAll rows[i]).1.map (rp B10),(rdAll rows[i]).2),()):=by
   unfold S.s_l01List;exact if_pos hr
  rw[ew,Option.bind_some];dsimp only;cases w1:(rdAll rows[i]).2
  ·rw[if_pos (by decide),Bool.false_and,Bool.false_and,if_neg (by decide)]
  have eW:S.s_l01Weights ((rdAll rows[i]).1.map (rp B10),())=some (isW (rdAll rows[i]).1,()):=by
   unfold S.s_l01Weights;dsimp only;rw[if_pos (rdAll_goodL w1),map_rv B10_le]
  rw[if_neg (by decide),eW,Option.bind_some,Bool.true_and];dsimp only;cases hw:isW (rdAll rows[i]).1
  ·rw[if_pos (by decide),Bool.false_and,if_neg (by decide)]
  rw[if_neg (by decide),Bool.true_and];simp only[List.length_cons,List.length_nil,Nat.zero_add];rw[if_pos (decide_eq_true e4),wr (by omega) (by omega),<-hg',List.take_add_one,List.getElem?_eq_getElem hi,Option.toList_some,List.map_append];rfl) (fun g=>by
  unfold P.s_l03Parse_b0;dsimp only;rw[if_neg (by simp),List.take_length,List.drop_length];rfl) (by omega)
 rw[List.drop_zero]at key;refine Eq.trans key ?_
 by_cases ha:(rows.all fun r=>decide (r.length=rows.length)&&(wtAll r).2)=true
 ·rw[if_pos ha,if_pos ha,List.map_map];rfl
 ·rw[if_neg ha,if_neg ha];rfl
abbrev P.s_l01Dec_b0 (x1:List Int×Int×Int×Unit) (g2:List Int×Int×Int×Unit->Option (ByteArray×Unit)):Option (ByteArray×Unit):=
 (fun(a:List Int) (b c:Int)=>if(a.length:Int)==0 then if decide ((Int.tmod b 10)<0)then if decide ((((List.length [wrap .u8 (wrap .i64 (48+(wrap .i64 (0 - (Int.tmod b 10)))))])+a.length)*1)<=140737488355328)then g2 ([wrap .u8 (wrap .i64 (48+(wrap .i64 (0 - (Int.tmod b 10)))))]++a,wrap .i64 (Int.tdiv b 10),c,())else none else if decide ((((List.length [wrap .u8 (wrap .i64 (48+(Int.tmod b 10)))])+a.length)*1)<=140737488355328)then g2 ([wrap .u8 (wrap .i64 (48+(Int.tmod b 10)))]++a,wrap .i64 (Int.tdiv b 10),c,())else none else if b != 0 then if decide ((Int.tmod b 10)<0)then if decide ((((List.length [wrap .u8 (wrap .i64 (48+(wrap .i64 (0 - (Int.tmod b 10)))))])+a.length)*1)<=140737488355328)then g2 ([wrap .u8 (wrap .i64 (48+(wrap .i64 (0 - (Int.tmod b 10)))))]++a,wrap .i64 (Int.tdiv b 10),c,())else none else if decide ((((List.length [wrap .u8 (wrap .i64 (48+(Int.tmod b 10)))])+a.length)*1)<=140737488355328)then g2 ([wrap .u8 (wrap .i64 (48+(Int.tmod b 10)))]++a,wrap .i64 (Int.tdiv b 10),c,())else none else if decide (c<0)then if decide (((1+a.length)*1)<=140737488355328)then some (strOf ([45]++a),())else none else some (strOf a,())) x1.1 x1.2.1 x1.2.2.1
def P.s_l01Dec (k:Nat) (x:Int×Unit):Option (ByteArray×Unit):=
 loopP P.s_l01Dec_b0 k ([],x.1,x.1,())
def digI (u:Nat):List Int:=(Go.Lib.decDigits u).map fun b=>(b.toNat:Int)
theorem digI_small {u:Nat} (h:u<10):digI u=[48+(u:Int)]:=by
 unfold digI;rw[Go.Lib.decDigits,dif_pos h];simp only[List.map_cons,List.map_nil,List.cons.injEq,and_true];rw[UInt8.toNat_ofNat'];omega
theorem digI_step {u:Nat} (h:¬u<10):digI u=digI (u/10)++[48+((u%10:Nat):Int)]:=by
 unfold digI;rw[Go.Lib.decDigits,dif_neg h,List.map_append];simp only[List.map_cons,List.map_nil];rw[UInt8.toNat_ofNat'];congr 2;omega
theorem strOf_map (l:List UInt8):strOf (l.map fun b=>(b.toNat:Int))=⟨l.toArray⟩:=by
 unfold strOf;rw[List.map_map];have:((fun n:Int=>UInt8.ofNat n.toNat) ∘ fun b:UInt8=>(b.toNat:Int))=id:=by
  funext b;simp
 rw[this,List.map_id]
theorem wr8 {x:Int} (h0:0<=x) (h1:x<=255):IntKind.wrap .u8 x=x:=by
 show x%256=x;omega
def sgn (neg:Bool) (u:Nat):Int:=if neg=true then -(u:Int)else(u:Int)
theorem sgn_tmod (neg:Bool) (u:Nat):Int.tmod (sgn neg u) 10=sgn neg (u%10):=by
 cases neg
 ·show Int.tmod (u:Int) 10=((u%10:Nat):Int)
  rw[Int.tmod_eq_emod_of_nonneg (by omega)];omega
 ·show Int.tmod (-(u:Int)) 10= -((u%10:Nat):Int);rw[Int.neg_tmod,Int.tmod_eq_emod_of_nonneg (by omega)];omega
theorem sgn_tdiv (neg:Bool) (u:Nat):Int.tdiv (sgn neg u) 10=sgn neg (u/10):=by
 cases neg
 ·show Int.tdiv (u:Int) 10=((u/10:Nat):Int)
  rw[Int.tdiv_eq_ediv_of_nonneg (by omega)];omega
 ·show Int.tdiv (-(u:Int)) 10= -((u/10:Nat):Int);rw[Int.neg_tdiv,Int.tdiv_eq_ediv_of_nonneg (by omega)];omega
theorem dec_round (neg:Bool) (u:Nat) (n:Int) (out:List Int) (g:((List Int)×(Int×(Int×Unit)))->Option (ByteArray×Unit)) (hu:u<=9223372036854775808) (hs:neg=false->u<=9223372036854775807) (ho:out.length<=1000) (hc:out=[]\/u≠0):
  P.s_l01Dec_b0 (out,sgn neg u,n,()) g=g ((48+((u%10:Nat):Int))::out,sgn neg (u/10),n,()):=by
 have hw:IntKind.wrap .i64 (sgn neg (u/10))=sgn neg (u/10):=by
  apply wr<;>unfold sgn<;>split<;>omega
 have hA:∀(a b:Option (ByteArray×Unit)),(if((decide (sgn neg (u%10)<(0:Int)))=true)then a else b)=(if(sgn neg (u%10)<0)then a else b):=by
  intro a b
  by_cases h:sgn neg (u%10)<0<;>simp [h]
 have hneg:sgn neg (u%10)<0->IntKind.wrap .i64 ((0:Int) - sgn neg (u%10))=((u%10:Nat):Int):=by
  intro h;unfold sgn at h ⊢;split at h
  ·rename_i hn;rw[if_pos hn,wr (by omega) (by omega)];omega
  ·omega
 have hpos:¬sgn neg (u%10)<0->sgn neg (u%10)=((u%10:Nat):Int):=by
  intro h;unfold sgn at h ⊢;split at h
  ·rename_i hn;rw[if_pos hn];omega
  ·rename_i hn;rw[if_neg hn]
 have hch:IntKind.wrap .u8 (IntKind.wrap .i64 ((48:Int)+((u%10:Nat):Int)))=48+((u%10:Nat):Int):=by
  rw[wr (by omega) (by omega),wr8 (by omega) (by omega)]
 have hlen:∀c:Int,((List.length (c::([]:List Int))+List.length out)*1<=140737488355328):=by
  intro c;simp;omega
 unfold P.s_l01Dec_b0;dsimp only;have hu0:u≠0->sgn neg u≠0:=by
  intro h;unfold sgn;split<;>omega
 simp only[hA,sgn_tmod,sgn_tdiv,hw];have hin:∀X Y:Option (ByteArray×Unit),(sgn neg (u%10)<0->X=g ((48+((u%10:Nat):Int))::out,sgn neg (u/10),n,()))->(¬sgn neg (u%10)<0->Y=g ((48+((u%10:Nat):Int))::out,sgn neg (u/10),n,()))->
   (if sgn neg (u%10)<0 then X else Y)=g ((48+((u%10:Nat):Int))::out,sgn neg (u/10),n,()):=by
  intro X Y h1 h2;split
  ·exact h1 (by assumption)
  ·exact h2 (by assumption)
 have key:(if sgn neg (u%10)<0 then(if((decide (((List.length ((IntKind.wrap .u8 (IntKind.wrap .i64 ((48:Int)+(IntKind.wrap .i64 ((0:Int) - sgn neg (u%10))))))::([]:List Int))+(List.length out))*(1:Nat))<=(140737488355328:Nat)))=true)then(g ((((IntKind.wrap .u8 (IntKind.wrap .i64 ((48:Int)+(IntKind.wrap .i64 ((0:Int) - sgn neg (u%10))))))::([]:List Int))++out),(sgn neg (u/10),(n,()))))else none)
   else(if((decide (((List.length ((IntKind.wrap .u8 (IntKind.wrap .i64 ((48:Int)+sgn neg (u%10))))::([]:List Int))+(List.length out))*(1:Nat))<=(140737488355328:Nat)))=true)then(g ((((IntKind.wrap .u8 (IntKind.wrap .i64 ((48:Int)+sgn neg (u%10))))::([]:List Int))++out),(sgn neg (u/10),(n,()))))else none))=g ((48+((u%10:Nat):Int))::out,sgn neg (u/10),n,()):=by
  refine hin _ _ (fun h=> ?_) (fun h=> ?_)
  ·rw[if_pos (decide_eq_true (hlen _)),hneg h,hch];rfl
  ·rw[if_pos (decide_eq_true (hlen _)),hpos h,hch];rfl
 rcases hc with rfl|hc
 ·rw[if_pos (by rfl)];exact key
 ·by_cases ho':(((List.length out):Int)==(0:Int))=true
  ·rw[if_pos ho'];exact key
  ·rw[if_neg ho',if_pos (by simpa using hu0 hc)];exact key
theorem dec_end (neg:Bool) (n:Int) (out:List Int) (g:((List Int)×(Int×(Int×Unit)))->Option (ByteArray×Unit)) (ho:out.length<=1000) (hc:out≠ []):
  P.s_l01Dec_b0 (out,sgn neg 0,n,()) g=some (strOf (if n<0 then 45::out else out),()):=by
 unfold P.s_l01Dec_b0;dsimp only;have h0:sgn neg 0=0:=by cases neg<;>rfl
 rw[if_neg (by simpa using hc),h0,if_neg (by decide)]
 by_cases hn:n<0
 ·rw[if_pos (decide_eq_true hn),if_pos (decide_eq_true (by omega)),if_pos hn];rfl
 ·rw[if_neg (by simpa using hn),if_neg hn]
theorem dec_loop (neg:Bool) (n:Int):∀(u:Nat) (out:List Int) (k:Nat),u≠0->u<=9223372036854775808->(neg=false->u<=9223372036854775807)->out.length+u.log2<=900->u.log2+2<=k->
  loopP P.s_l01Dec_b0 k (out,sgn neg u,n,())=some (strOf (if n<0 then 45::(digI u++out)else digI u++out),()):=by
 intro u
 induction u using Nat.strongRecOn with
 |ind u ih=>
  intro out k h0 hu hs ho hk;obtain⟨k,rfl⟩:∃j,k=j+1:=⟨k - 1,by omega⟩
  rw[loopP_succ,dec_round neg u n out _ hu hs (by omega) (.inr h0)]
  by_cases h:u<10
  ·have e:u/10=0:=by omega
   obtain⟨k,rfl⟩:∃j,k=j+1:=⟨k - 1,by omega⟩
   rw[e,loopP_succ,dec_end neg n _ _ (by simp;omega) (by simp),digI_small h,Nat.mod_eq_of_lt h];rfl
  ·have hl:(u/10).log2+1<=u.log2:=by
    have h2:u/10≠0:=by omega
    have a1:2^(u/10).log2<=u/10:=Nat.log2_self_le h2;have a2:2^((u/10).log2+1)<=u:=by rw[Nat.pow_succ];omega
    exact(Nat.le_log2 h0).2 a2
   rw[ih (u/10) (by omega) _ k (by omega) (by omega) (fun hn=>by have:=hs hn;omega) (by simp;omega) (by omega),digI_step h];simp
def S.s_l01Dec (x:(Int×Unit)):(Option (ByteArray×Unit)):=if -9223372036854775808<=x.1/\x.1<=9223372036854775807 then some (⟨(Go.Lib.itoa x.1).toArray⟩,())else none
theorem S.s_l01Dec_ok (x r) (h:S.s_l01Dec x=some r):∃k,P.s_l01Dec k x=some r:=by
 obtain⟨n,u⟩:=x;unfold S.s_l01Dec at h;dsimp only at h;split at h
 case isFalse=>cases h
 rename_i hn;cases h;refine⟨200,?_⟩;unfold P.s_l01Dec;dsimp only;have hsg:∃neg,n=sgn neg n.natAbs/\(neg=true↔n<0):=by
  by_cases h:n<0
  ·exact⟨true,by unfold sgn;simp;omega,by simp [h]⟩
  ·exact⟨false,by unfold sgn;simp;omega,by simp [h]⟩
 obtain⟨neg,h1,h2⟩:=hsg;have hfin:strOf (if n<0 then 45::digI n.natAbs else digI n.natAbs)=⟨(Go.Lib.itoa n).toArray⟩:=by
  unfold Go.Lib.itoa digI;split
  ·rw[<-strOf_map];rfl
  ·rw[<-strOf_map];have:n.natAbs=n.toNat:=by omega
   rw[this]
 by_cases h0:n.natAbs=0
 ·have hn0:n=0:=by omega
  subst hn0;have e0:(0:Int)=sgn false 0:=rfl;show loopP P.s_l01Dec_b0 (198+1+1) ([],0,0,())=_;rw[loopP_succ]
  conv=>lhs;rw[show(([]:List Int),(0:Int),(0:Int),())=([],sgn false 0,0,())from rfl]
  rw[dec_round false 0 0 [] _ (by omega) (by omega) (by simp) (.inl rfl),loopP_succ,show 0/10=0 from rfl,dec_end false 0 _ _ (by simp) (by simp),<-hfin];rw[show(0:Int).natAbs=0 from rfl,digI_small (by omega)]
 ·have hb:n.natAbs<=9223372036854775808:=by omega
  have hl:n.natAbs.log2<=64:=by
   have:n.natAbs.log2<65:=(Nat.log2_lt h0).2 (by omega);omega
  have:=dec_loop neg n n.natAbs [] 200 h0 hb (fun hf=>by
   have:¬n<0:=fun h=>by rw[h2.2 h]at hf;cases hf
   omega) (by simp;omega) (by omega)
  rw[<-h1]at this;rw[this,List.append_nil,hfin]
abbrev P.s_l01NatText_b1 (x2:Int×List Int×ByteArray×Unit) (g3:Int×List Int×ByteArray×Unit->Option (ByteArray×Unit)):Option (ByteArray×Unit):=
 if decide (x2.1>=0)then if decide (0<=x2.1)then if decide (x2.1<(x2.2.1.length:Int))then(S.s_l01Dec (wrap .i64 ((x2.2.1.getD x2.1.toNat 0)+1000000000),())).bind fun y4=>if decide (0<=(y4.1.size:Int))then if decide ((y4.1.size:Int)<=(y4.1.size:Int))then if decide (1<=(y4.1.size:Int))then if decide ((x2.2.2.1.size+(ByteArray.size (ByteArray.extract y4.1 1 (Int.toNat (y4.1.size:Int)))))<=9223372036854775807)then g3 (wrap .i64 (x2.1 - 1),x2.2.1,x2.2.2.1++(ByteArray.extract y4.1 1 (Int.toNat (y4.1.size:Int))),())else none else none else none else none else none else none else some (x2.2.2.1,())
def P.s_l01NatText (k:Nat) (x:List Int×Unit):Option (ByteArray×Unit):=
 if(x.1.length:Int)==0 then some (bs [48],())else if decide (0<=(wrap .i64 ((x.1.length:Int) - 1)))then if decide ((wrap .i64 ((x.1.length:Int) - 1))<(x.1.length:Int))then(S.s_l01Dec (x.1.getD (Int.toNat (wrap .i64 ((x.1.length:Int) - 1))) 0,())).bind fun y0=>loopP P.s_l01NatText_b1 k (wrap .i64 ((x.1.length:Int) - 2),x.1,y0.1,())else none else none
def S.s_l01NatText (x:((List Int)×Unit)):(Option (ByteArray×Unit)):=if canon B10 x.1=true/\x.1.length<=40000000 then some (⟨(Go.Lib.decDigits (dval B10 x.1)).toArray⟩,())else none
theorem S.s_l01NatText_ok (x r) (h:S.s_l01NatText x=some r):∃k,P.s_l01NatText k x=some r:=by
 obtain⟨xs,u⟩:=x;unfold S.s_l01NatText at h;dsimp only at h;split at h
 case isFalse=>cases h
 rename_i hc;obtain⟨ca,la⟩:=hc;cases h;refine⟨xs.length+1,?_⟩;unfold P.s_l01NatText;dsimp only
 by_cases he:xs=[]
 ·subst he;rw[if_pos (by rfl),show dval B10 []=0 from rfl,dec_small (by decide)];rfl
 ·have hpos:0<xs.length:=List.length_pos_iff.2 he;obtain⟨m,hm⟩:∃m,xs.length=m+1:=⟨xs.length - 1,by omega⟩
  have dx:=canon_dig ca;have h0:dval B10 xs≠0:=by
   intro q;have:=canon_eq ca;rw[q,nd_zero B10_le]at this;exact he this.symm
  have hdec:∀z:Int,0<=z->z<=2000000000->S.s_l01Dec (z,())=some (⟨(Go.Lib.decDigits z.toNat).toArray⟩,()):=by
   intro z z0 z1;unfold S.s_l01Dec;dsimp only;rw[if_pos ⟨by omega,by omega⟩];unfold Go.Lib.itoa;rw[if_neg (by omega)]
  have hnz:∀i,i<=m->dval B10 (xs.drop i)≠0:=by
   intro i hi q;have h1:=dval_append (B:=B10) (xs.take i) (xs.drop i);rw[List.take_append_drop,q,Nat.mul_zero,Nat.add_zero]at h1;have h2:=dval_lt (dig_take dx i);have h3:(xs.take i).length=i:=by simp;omega
   rw[h3]at h2;have h4:=nd_low B10_le h0;rw[canon_eq ca,hm,Nat.add_sub_cancel]at h4;have h5:B10^i<=B10^m:=Nat.pow_le_pow_right (by decide) hi;omega
  have hlenD:∀i,(Go.Lib.decDigits (dval B10 (xs.drop i))).length<=9*xs.length:=by
   intro i;have h1:=dval_lt (dig_drop dx i);have h2:B10^(xs.drop i).length<=B10^xs.length:=Nat.pow_le_pow_right (by decide) (by simp);rw[show B10=10^9 by decide,<-Nat.pow_mul,<-Nat.pow_mul]at h2;rw[show B10^(xs.drop i).length=10^(9*(xs.drop i).length) by rw[show B10=10^9 by decide,<-Nat.pow_mul]]at h1;exact dec_len (by omega) (by omega)
  have c1:(0:Int)<=(m:Int):=by omega
  have c2:(m:Int)<((m+1:Nat):Int):=by omega
  rw[if_neg (by simp;exact he),hm,wr (x:=((m+1:Nat):Int) - 1) (by omega) (by omega),wr (x:=((m+1:Nat):Int) - 2) (by omega) (by omega),show((m+1:Nat):Int) - 1=(m:Int) by omega,if_pos (decide_eq_true c1),if_pos (decide_eq_true c2),Int.toNat_natCast];have gx:=dig_getD (B:=B10) (by decide) dx m;have gx1:xs.getD m 0<1000000000:=gx.2;rw[hdec _ gx.1 (by omega),Option.bind_some];have hlast:(xs.getD m 0).toNat=dval B10 (xs.drop m):=by
   rw[dval_drop (by omega),List.drop_of_length_le (by omega)];simp [dval]
  rw[hlast];have key:=loop_up0 (k:=m+1+1) (b:=P.s_l01NatText_b1) (n:=m) (st:=fun i=>((m:Int) - 1 - (i:Int),xs,(⟨(Go.Lib.decDigits (dval B10 (xs.drop (m - i)))).toArray⟩:ByteArray),())) (F:=fun i=>some (⟨(Go.Lib.decDigits (dval B10 xs)).toArray⟩,())) (fun i g hi hg=>by
   unfold P.s_l01NatText_b1;dsimp only at hg ⊢;obtain⟨j,hj⟩:∃j,m - i=j+1:=⟨m - i - 1,by omega⟩
   rw[show m - (i+1)=j by omega,show(m:Int) - 1 - ((i+1:Nat):Int)=(j:Int) - 1 by omega]at hg;rw[hj,show(m:Int) - 1 - (i:Int)=(j:Int) by omega];have d1:(j:Int)>=0:=by omega
   have d2:(0:Int)<=(j:Int):=by omega
   have d3:(j:Int)<(xs.length:Int):=by omega
   have gx:=dig_getD (B:=B10) (by decide) dx j;have gx1:xs.getD j 0<1000000000:=gx.2;have gx0:=gx.1;rw[if_pos (decide_eq_true d1),if_pos (decide_eq_true d2),if_pos (decide_eq_true d3),Int.toNat_natCast,wr (x:=xs.getD j 0+1000000000) (by omega) (by omega),hdec _ (by omega) (by omega),Option.bind_some];dsimp only;obtain⟨z,hz⟩:∃z:Nat,xs.getD j 0=(z:Int):=⟨(xs.getD j 0).toNat,by omega⟩
   have hzl:z<10^9:=by rw[show(10:Nat)^9=1000000000 by decide];omega
   have e1:=nine_all z (xs.getD j 0) hz hzl;rw[e1];have hs:(⟨(49::decPad 9 z).toArray⟩:ByteArray).size=10:=by rw[ba_sz,List.length_cons,decPad_len]
   have hx:ByteArray.extract ⟨(49::decPad 9 z).toArray⟩ 1 10=⟨(decPad 9 z).toArray⟩:=by
    apply ByteArray.ext;rw[ByteArray.data_extract];have hl:(decPad 9 z).length=9:=decPad_len _ _;simp [List.extract_toArray,List.take_of_length_le,hl]
   rw[hs];have f1:(0:Int)<=((10:Nat):Int):=by decide
   have f2:(1:Int)<=((10:Nat):Int):=by decide
   rw[if_pos (decide_eq_true f1),if_pos (decide_eq_true (Int.le_refl _)),if_pos (decide_eq_true f2),show(((10:Nat):Int)).toNat=10 from rfl,hx];have hl1:=hlenD (j+1);have f3:(⟨(Go.Lib.decDigits (dval B10 (xs.drop (j+1)))).toArray⟩:ByteArray).size+(⟨(decPad 9 z).toArray⟩:ByteArray).size<=9223372036854775807:=by
    rw[ba_sz,ba_sz,decPad_len];omega
   rw[if_pos (decide_eq_true f3),ba_app,wr (x:=(j:Int) - 1) (by omega) (by omega)];have e2:Go.Lib.decDigits (dval B10 (xs.drop (j+1)))++decPad 9 z=Go.Lib.decDigits (dval B10 (xs.drop j)):=by
    rw[dval_drop (xs:=xs) (i:=j) (by omega),hz,Int.toNat_natCast];generalize hD:dval B10 (xs.drop (j+1))=D;have hD0:0<D:=by rw[<-hD];exact Nat.pos_of_ne_zero (hnz (j+1) (by omega))
    have e3:z+B10*D=D*10^9+z:=by rw[Nat.add_comm,Nat.mul_comm]
    rw[e3,dec_split 9 D z hD0 hzl]
   rw[e2];exact hg) (fun g=>by
   unfold P.s_l01NatText_b1;dsimp only;rw[if_neg (by simp;omega),Nat.sub_self,List.drop_zero]) (by omega)
  rw[Nat.sub_zero,show(m:Int) - 1 - ((0:Nat):Int)=((m+1:Nat):Int) - 2 by omega]at key;exact key
def P.s_l01Fits (k:Nat) (x:RB×Unit):Option (Bool×Unit):=
 (S.s_l01NatText (x.1.2.1,())).bind fun y0=>if decide ((y0.1.size:Int)<=200)then(S.s_l01NatText (x.1.2.2,())).bind fun y1=>some (decide ((y1.1.size:Int)<=200),())else some (false,())
def S.s_l01Fits (x:(RB×Unit)):(Option (Bool×Unit)):=P.s_l01Fits 0 x
theorem S.s_l01Fits_ok (x r) (h:S.s_l01Fits x=some r):∃k,P.s_l01Fits k x=some r:=⟨0,h⟩
def P.s_l01Show (k:Nat) (x:RB×Unit):Option (ByteArray×Unit):=
 (S.s_l01NatText (x.1.2.1,())).bind fun y0=>if x.1.1 then if decide ((1+y0.1.size)<=9223372036854775807)then(S.s_l01Cmp (x.1.2.2,[1],())).bind fun y1=>if y1.1 != 0 then(S.s_l01NatText (x.1.2.2,())).bind fun y2=>if decide ((1+y2.1.size)<=9223372036854775807)then if decide (((ByteArray.size ((bs [45])++y0.1))+(ByteArray.size ((bs [47])++y2.1)))<=9223372036854775807)then some (((bs [45])++y0.1)++((bs [47])++y2.1),())else none else none else some ((bs [45])++y0.1,())else none else(S.s_l01Cmp (x.1.2.2,[1],())).bind fun y3=>if y3.1 != 0 then(S.s_l01NatText (x.1.2.2,())).bind fun y4=>if decide ((1+y4.1.size)<=9223372036854775807)then if decide ((y0.1.size+(ByteArray.size ((bs [47])++y4.1)))<=9223372036854775807)then some (y0.1++((bs [47])++y4.1),())else none else none else some (y0.1,())
def S.s_l01Show (x:(RB×Unit)):(Option (ByteArray×Unit)):=P.s_l01Show 0 x
theorem S.s_l01Show_ok (x r) (h:S.s_l01Show x=some r):∃k,P.s_l01Show k x=some r:=⟨0,h⟩
def P.s_l01Give (k:Nat) (x:RB×Unit):Option ((ByteArray×Bool)×Unit):=
 (S.s_l01Fits ((x.1.1,x.1.2.1,x.1.2.2),())).bind fun y0=>if !y0.1 then some ((bs [],false),())else(S.s_l01Show ((x.1.1,x.1.2.1,x.1.2.2),())).bind fun y1=>some ((y1.1,true),())
def S.s_l01Give (x:(RB×Unit)):(Option ((ByteArray×Bool)×Unit)):=if rok B10 40000000 x.1=true then some (giveN (rv B10 x.1),())else none
theorem S.s_l01Give_ok (x r) (h:S.s_l01Give x=some r):∃k,P.s_l01Give k x=some r:=by
 obtain⟨⟨neg,as,bs'⟩,u⟩:=x;unfold S.s_l01Give at h;dsimp only at h;split at h
 case isFalse=>cases h
 rename_i hc;cases h;rw[rok_iff]at hc;obtain⟨ca,cb,la,lb⟩:=hc;dsimp only at ca cb la lb;refine⟨0,?_⟩;unfold P.s_l01Give S.s_l01Fits S.s_l01Show P.s_l01Fits P.s_l01Show;dsimp only;have e1:∀xs,canon B10 xs=true->xs.length<=40000000->S.s_l01NatText (xs,())=some (⟨(Go.Lib.decDigits (dval B10 xs)).toArray⟩,()):=by
  intro xs cx lx;unfold S.s_l01NatText;exact if_pos ⟨cx,lx⟩
 have e3:S.s_l01Cmp (bs',([1],()))=some (cmpN (dval B10 bs') 1,()):=by
  unfold S.s_l01Cmp;dsimp only;rw[if_pos ⟨cb,canon_one B10_le,by omega⟩,dval_one]
 rw[e1 as ca la,Option.bind_some,e1 bs' cb lb,Option.bind_some,e3,Option.bind_some];dsimp only;have l1:=canon_dec (show B10<=10^10 by decide) ca;have l2:=canon_dec (show B10<=10^10 by decide) cb;unfold giveN rv ratTx fitN;dsimp only;generalize Go.Lib.decDigits (dval B10 as)=t1 at*;generalize Go.Lib.decDigits (dval B10 bs')=t2 at*;rw[show bs [45]=⟨([45]:List UInt8).toArray⟩from rfl,show bs [47]=⟨([47]:List UInt8).toArray⟩from rfl];simp only[Option.bind_some];rw[ba_app,ba_app,ba_app,ba_app,ba_sz,ba_sz,ba_sz,ba_sz];have c1:(1+t1.length<=9223372036854775807):=by omega
 have c2:(1+t2.length<=9223372036854775807):=by omega
 have c3:([45]++t1).length+([47]++t2).length<=9223372036854775807:=by simp;omega
 have c4:t1.length+([47]++t2).length<=9223372036854775807:=by simp;omega
 simp only[c1,c2,c3,c4,decide_true,if_true];have d1:∀t:List UInt8,decide (((t.length:Nat):Int)<=200)=decide (t.length<=200):=by
  intro t;rw[decide_eq_decide];omega
 rw[d1,d1];have d2:((cmpN (dval B10 bs') 1 != 0)=true)↔¬dval B10 bs'=1:=by
  rw[<-cmpN_zero (b:=1)];simp
 by_cases f1:t1.length<=200
 ·by_cases f2:t2.length<=200
  ·by_cases hq:dval B10 bs'=1
   ·have n2:¬((cmpN 1 1 != 0)=true):=by decide
    cases neg<;>simp only[f1,f2,n2,hq,decide_true,if_true,if_false,Bool.false_eq_true,List.append_nil,List.nil_append,Option.bind_some,Bool.not_true,Bool.and_true]
   ·have n2:((cmpN (dval B10 bs') 1 != 0)=true):=d2.2 hq;cases neg<;>simp only[f1,f2,n2,hq,decide_true,if_true,if_false,Bool.false_eq_true,List.nil_append,Option.bind_some,Bool.not_true,Bool.and_true]<;>simp
  ·simp [f1,f2]
 ·simp [f1]
abbrev P.s_l01GiveAll_b0 (x1:Int×Int×List RB×List ByteArray×Unit) (g2:Int×Int×List RB×List ByteArray×Unit->Option ((List ByteArray×Bool)×Unit)):Option ((List ByteArray×Bool)×Unit):=
 if decide (x1.1<x1.2.1)then if decide (0<=x1.1)then if decide (x1.1<(x1.2.2.1.length:Int))then(S.s_l01Give (((x1.2.2.1.getD x1.1.toNat (false,[],[])).1,(x1.2.2.1.getD x1.1.toNat (false,[],[])).2.1,(x1.2.2.1.getD x1.1.toNat (false,[],[])).2.2),())).bind fun y3=>if !y3.1.2 then some (([],false),())else if decide (((x1.2.2.2.1.length+(List.length [y3.1.1]))*16)<=140737488355328)then g2 (wrap .i64 (x1.1+1),x1.2.1,x1.2.2.1,x1.2.2.2.1++[y3.1.1],())else none else none else none else some ((x1.2.2.2.1,true),())
def P.s_l01GiveAll (k:Nat) (x:List RB×Unit):Option ((List ByteArray×Bool)×Unit):=
 loopP P.s_l01GiveAll_b0 k (0,(x.1.length:Int),x.1,[],())
def S.s_l01GiveAll (x:((List RB)×Unit)):(Option (((List ByteArray)×Bool)×Unit)):=if x.1.all (rok B10 40000000)=true/\x.1.length<=1000000 then some (giveL (x.1.map (rv B10)),())else none
theorem S.s_l01GiveAll_ok (x r) (h:S.s_l01GiveAll x=some r):∃k,P.s_l01GiveAll k x=some r:=by
 obtain⟨xs,u⟩:=x;unfold S.s_l01GiveAll at h;dsimp only at h;split at h
 case isFalse=>cases h
 rename_i hc;cases h;obtain⟨qs,rfl⟩:∃qs:List Q3,xs=qs.map (rp B10):=⟨xs.map (rv B10),by
  rw[List.map_map];have:∀ys:List (Bool×(List Int×List Int)),ys.all (rok B10 40000000)=true->ys.map (rp B10 ∘ rv B10)=ys:=by
   intro ys
   induction ys with
   |nil=>intro _;rfl
   |cons y ys ih=>
    intro hy;rw[List.all_cons,Bool.and_eq_true]at hy;rw[List.map_cons,ih hy.2];show rp B10 (rv B10 y)::ys=_;rw[rp_rv hy.1]
  exact(this xs hc.1).symm⟩
 have hlen:=hc.2;rw[List.length_map]at hlen;refine⟨qs.length+1,?_⟩;unfold P.s_l01GiveAll giveL;dsimp only;have key:=loop_up0 (k:=qs.length+1) (b:=P.s_l01GiveAll_b0) (n:=qs.length) (st:=fun i=>((i:Int),(qs.length:Int),qs.map (rp B10),(qs.take i).map (fun r:Q3=>(⟨(ratTx r).toArray⟩:ByteArray)),())) (F:=fun i=>some (if(qs.drop i).all fitN=true then(qs.map (fun r:Q3=>(⟨(ratTx r).toArray⟩:ByteArray)),true)else([],false),())) (fun i g hi hg'=>by
  unfold P.s_l01GiveAll_b0;dsimp only at hg' ⊢;have e1:(i:Int)<(qs.length:Int):=by omega
  have e2:(0:Int)<=(i:Int):=by omega
  have e3:(i:Int)<((qs.map (rp B10)).length:Int):=by rw[List.length_map];omega
  simp only[e1,e2,e3,decide_true,if_true];rw[getD_cast (qs.map (rp B10)) i _ (by rw[List.length_map];exact hi),List.getElem_map];have ht:S.s_l01Give (rp B10 qs[i],())=some (giveN qs[i],()):=by
   unfold S.s_l01Give;dsimp only;rw[if_pos (by have:=List.all_eq_true.1 hc.1 _ (List.mem_map.2 ⟨qs[i],List.getElem_mem hi,rfl⟩);exact this),rv_rp B10_le]
  show Option.bind (S.s_l01Give (rp B10 qs[i],())) _=_;rw[ht,Option.bind_some,List.drop_eq_getElem_cons hi,List.all_cons];dsimp only;cases hf:fitN qs[i]
  ·have hv:giveN qs[i]=(bs [],false):=by unfold giveN;rw[hf];rfl
   rw[hv,if_pos (by decide),Bool.false_and,if_neg (by decide)]
  ·have hv:giveN qs[i]=(⟨(ratTx qs[i]).toArray⟩,true):=by unfold giveN;rw[hf];rfl
   rw[hv];have e4:(((qs.take i).map (fun r:Q3=>(⟨(ratTx r).toArray⟩:ByteArray))).length+1)*16<=140737488355328:=by
    rw[List.length_map,List.length_take];omega
   rw[if_neg (by simp),wr (by omega) (by omega),Bool.true_and,<-hg'];simp only[List.length_cons,List.length_nil,Nat.zero_add];rw[if_pos (decide_eq_true e4),List.take_add_one,List.getElem?_eq_getElem hi,Option.toList_some,List.map_append];rfl) (fun g=>by
  unfold P.s_l01GiveAll_b0;dsimp only;rw[if_neg (by simp),List.take_length,List.drop_length];rfl) (by omega)
 rw[map_rv B10_le,List.length_map];refine key.trans ?_;rw[List.drop_zero]
 by_cases ha:qs.all fitN=true
 ·rw[if_pos ha,if_pos ha];congr 3;refine List.map_congr_left fun r hr=> ?_
  unfold giveN;rw[if_pos (List.all_eq_true.1 ha r hr)]
 ·rw[if_neg ha,if_neg ha]
abbrev s_l03Give.A:=Int×Int×List (List RB)×List (List ByteArray)×List (List ByteArray×Nat)×Unit
abbrev s_l03Give.B:=Option (((List (List ByteArray×Nat)×Nat)×Bool)×Unit)
abbrev P.s_l03Give_b0 (x1:s_l03Give.A) (g2:s_l03Give.A->s_l03Give.B):s_l03Give.B:=
 if decide (x1.1<x1.2.1)then if decide (0<=x1.1)then if decide (x1.1<(x1.2.2.1.length:Int))then(S.s_l01GiveAll (x1.2.2.1.getD x1.1.toNat [],())).bind fun y3=>if !y3.1.2 then some (((([]:List (List ByteArray×Nat)),0),false),())else if decide ((((List.length (hd0 x1.2.2.2.2.1))+(List.length (hd0 [(y3.1.1,y3.1.1.length)])))*24)<=140737488355328)then if dup (List.map (fun(y4:Nat×Nat)=>y4.1) (joinH (List.length (in0 x1.2.2.2.2.1)) (hd0 x1.2.2.2.2.1) (hd0 [(y3.1.1,y3.1.1.length)])))then none else g2 (wrap .i64 (x1.1+1),x1.2.1,x1.2.2.1,x1.2.2.2.1,nrm (joinH (List.length (in0 x1.2.2.2.2.1)) (hd0 x1.2.2.2.2.1) (hd0 [(y3.1.1,y3.1.1.length)])) ((in0 x1.2.2.2.2.1)++[y3.1.1]),())else none else none else none else if dup (List.map (fun(y5:Nat×Nat)=>y5.1) (hd0 x1.2.2.2.2.1))then none else some (((nrm (hd0 x1.2.2.2.2.1) (in0 x1.2.2.2.2.1),List.length (hd0 x1.2.2.2.2.1)),true),())
def P.s_l03Give (k:Nat) (x:List (List RB)×Unit):s_l03Give.B:=
 loopP P.s_l03Give_b0 k (0,(x.1.length:Int),x.1,[],[],())
open Classical in
def S.s_l03Give (x:((List (List RB))×Unit)):(Option (((((List ((List ByteArray)×Nat))×Nat))×Bool)×Unit)):=if ∃M,okM M/\x.1=mp B10 M then some (ownW (giveM (mv B10 x.1)),())else none
theorem S.s_l03Give_ok (x r) (h:S.s_l03Give x=some r):∃k,P.s_l03Give k x=some r:=by
 obtain⟨m,u⟩:=x;unfold S.s_l03Give at h;dsimp only at h;split at h
 case isFalse=>cases h
 rename_i hc;obtain⟨M,hM,rfl⟩:=hc;cases h;rw[mv_mp (by decide)];have hn:=hM.1;refine⟨13,?_⟩;unfold P.s_l03Give;dsimp only;rw[mp_len];have key:=loop_up0 (k:=13) (b:=P.s_l03Give_b0) (n:=M.length) (st:=fun i=>((i:Int),(M.length:Int),mp B10 M,([]:List (List ByteArray)),(M.take i).map (fun r=>((giveL r).1,(giveL r).1.length)),())) (F:=fun i=>some (if((M.drop i).all fun r=>r.all fitN)=true then((M.map (fun r=>((giveL r).1,(giveL r).1.length)),M.length),true)else(([],0),false),())) (fun i g hi hg=>by
  unfold P.s_l03Give_b0;dsimp only at hg ⊢;have e1:(i:Int)<(M.length:Int):=by omega
  have e2:(0:Int)<=(i:Int):=by omega
  have hr:M.getD i []=M[i]:=by rw[List.getD_eq_getElem?_getD,List.getElem?_eq_getElem hi];rfl
  have hmi:=hM.2 M[i] (List.getElem_mem hi);have eg:S.s_l01GiveAll (M[i].map (rp B10),())=some (giveL M[i],()):=by
   unfold S.s_l01GiveAll;dsimp only;rw[if_pos ⟨okM_rok (by decide) hmi.2,by rw[List.length_map];omega⟩,map_rv B10_le]
  simp only[mp_len,Int.toNat_natCast,mp_at hi,hr,e1,e2,decide_true,if_true];rw[eg,Option.bind_some];dsimp only;rw[giveL_fit,List.drop_eq_getElem_cons hi,List.all_cons];cases hf:M[i].all fitN
  ·rw[if_pos (by decide),Bool.false_and,if_neg (by decide)]
  ·have e3:(((M.take i).map (fun r=>((giveL r).1,(giveL r).1.length))).length+1)*24<=140737488355328:=by
    rw[List.length_map,List.length_take];omega
   have e4:= @own_app ByteArray ((M.take i).map (fun r=>((giveL r).1,(giveL r).1.length))) (giveL M[i]).1 (giveL M[i]).1.length;rw[if_neg (by decide),Bool.true_and];simp only[hd0_length,List.length_cons,List.length_nil,Nat.zero_add,e3,e4.1,e4.2,decide_true,if_true,Bool.false_eq_true,if_false];rw[wr (by omega) (by omega)];rw[<-List.take_append_getElem hi,List.map_append]at hg;exact hg) (fun g=>by
  unfold P.s_l03Give_b0;dsimp only;rw[if_neg (by simp),hd0_dup,nrm_hd0,hd0_length,if_neg (by decide),List.take_length,List.length_map,List.drop_length];rfl) (by omega)
 refine Eq.trans ?_ (key.trans ?_)
 ·rfl
 ·rw[List.drop_zero];unfold giveM;split
  ·unfold ownW;dsimp only;rw[List.map_map,List.length_map];rfl
  ·rfl
theorem s_l03Give_eq {M:List (List Q3)} (h:okM M):S.s_l03Give (mp B10 M,())=some (ownW (giveM M),()):=by
 unfold S.s_l03Give;dsimp only;rw[if_pos ⟨M,h,rfl⟩,mv_mp (by decide)]
def P.s_l00In (k:Nat) (x:Int×Int×Int×Unit):Option (Bool×Unit):=
 if decide (x.1>=x.2.1)then some (decide (x.1<=x.2.2.1),())else some (false,())
def S.s_l00In (x:(Int×(Int×(Int×Unit)))):(Option (Bool×Unit)):=P.s_l00In 0 x
theorem S.s_l00In_ok (x r) (h:S.s_l00In x=some r):∃k,P.s_l00In k x=some r:=⟨0,h⟩
def P.s_l00Max (k:Nat) (x:Int×Int×Unit):Option (Int×Unit):=
 if decide (x.1>x.2.1)then some (x.1,())else some (x.2.1,())
def S.s_l00Max (x:(Int×(Int×Unit))):(Option (Int×Unit)):=P.s_l00Max 0 x
theorem S.s_l00Max_ok (x r) (h:S.s_l00Max x=some r):∃k,P.s_l00Max k x=some r:=⟨0,h⟩
abbrev P.s_l00Has_b0 (x1:Int×List Int×Int×Unit) (g2:Int×List Int×Int×Unit->Option (Bool×Unit)):Option (Bool×Unit):=
 if decide (x1.1<(x1.2.1.length:Int))then if decide (0<=x1.1)then if decide (x1.1<(x1.2.1.length:Int))then if(x1.2.1.getD x1.1.toNat 0)==x1.2.2.1 then some (true,())else g2 (wrap .i64 (x1.1+1),x1.2.1,x1.2.2.1,())else none else none else some (false,())
def P.s_l00Has (k:Nat) (x:List Int×Int×Unit):Option (Bool×Unit):=
 loopP P.s_l00Has_b0 k (0,x.1,x.2.1,())
def S.s_l00Has (x:((List Int)×(Int×Unit))):(Option (Bool×Unit)):=if x.1.length<=1000000 then some (decide (x.2.1∈x.1),())else none
theorem S.s_l00Has_ok (x r) (h:S.s_l00Has x=some r):∃k,P.s_l00Has k x=some r:=by
 obtain⟨xs,n,u⟩:=x;unfold S.s_l00Has at h;dsimp only at h;split at h
 case isFalse=>cases h
 rename_i hc;cases h;refine⟨xs.length+1,?_⟩;unfold P.s_l00Has;dsimp only;have key:=loop_up0 (k:=xs.length+1) (b:=P.s_l00Has_b0) (n:=xs.length) (st:=fun i=>((i:Int),xs,n,())) (F:=fun i=>some (decide (n∈xs.drop i),())) (fun i g hi hg=>by
  unfold P.s_l00Has_b0;dsimp only at hg ⊢;have e1:(i:Int)<(xs.length:Int):=by omega
  have e2:(0:Int)<=(i:Int):=by omega
  simp only[e1,e2,decide_true,if_true];rw[getD_cast xs i _ hi,List.drop_eq_getElem_cons hi,wr (by omega) (by omega)]
  by_cases he:xs[i]=n
  ·rw[if_pos (by simp [he]),decide_eq_true (by rw[he];exact List.mem_cons_self ..)]
  ·rw[if_neg (by simp [he])];refine Eq.trans hg ?_;congr 2;rw[decide_eq_decide,List.mem_cons];exact⟨Or.inr,fun h=>h.resolve_left fun e=>he e.symm⟩) (fun g=>by
  unfold P.s_l00Has_b0;dsimp only;rw[if_neg (by simp),List.drop_length];rfl) (by omega)
 rw[List.drop_zero]at key;exact key
abbrev P.s_l03Parts_b5 (x6:Int×Int×List Int×Unit) (g7:Int×Int×List Int×Unit->Option (Int×Unit)):Option (Int×Unit):=
 if decide (x6.1<=x6.2.1)then(S.s_l00Has (x6.2.2.1,x6.1,())).bind fun y8=>if !y8.1 then some (0,())else g7 (wrap .i64 (x6.1+1),x6.2.1,x6.2.2.1,())else some (wrap .i64 (x6.2.1+1),())
abbrev P.s_l03Parts_b0 (k:Nat) (x1:Int×Int×List Int×Int×Unit) (g2:Int×Int×List Int×Int×Unit->Option (Int×Unit)):Option (Int×Unit):=
 (fun(a b d:Int) (c:List Int)=>if decide (a<b)then if decide (0<=a)then if decide (a<(c.length:Int))then(S.s_l00In (c.getD a.toNat 0,0,11,())).bind fun y3=>if !y3.1 then some (0,())else if decide (0<=a)then if decide (a<(c.length:Int))then(S.s_l00Max (d,c.getD a.toNat 0,())).bind fun y4=>g2 (wrap .i64 (a+1),b,c,y4.1,())else none else none else none else none else loopP P.s_l03Parts_b5 k (0,d,c,())) x1.1 x1.2.1 x1.2.2.2.1 x1.2.2.1
def P.s_l03Parts (k:Nat) (x:List (List RB)×List Int×Unit):Option (Int×Unit):=
 if(x.2.1.length:Int) != (x.1.length:Int)then some (0,())else loopP (P.s_l03Parts_b0 k) k (0,(x.2.1.length:Int),x.2.1,0,())
theorem sp_in (n:Int):S.s_l00In (n,0,11,())=some (inP n,()):=by
 unfold S.s_l00In P.s_l00In inP;dsimp only
 by_cases h:0<=n
 ·rw[if_pos (decide_eq_true h)];congr 2;rw[decide_eq_decide];exact⟨fun a=>⟨h,a⟩,fun a=>a.2⟩
 ·rw[if_neg (by simpa using h),decide_eq_false fun a=>h a.1]
theorem sp_max (a b:Int):S.s_l00Max (a,b,())=some (if a<b then b else a,()):=by
 unfold S.s_l00Max P.s_l00Max;dsimp only
 by_cases h:a>b
 ·rw[if_pos (decide_eq_true h),if_neg (by omega)]
 ·rw[if_neg (by simpa using h)]
  by_cases h2:a<b
  ·rw[if_pos h2]
  ·rw[if_neg h2,show a=b by omega]
def S.s_l03Parts (x:((List (List RB))×((List Int)×Unit))):(Option (Int×Unit)):=if x.2.1.length<=1000000/\x.1.length<=1000000 then some ((pkN x.2.1 x.1.length:Int),())else none
theorem S.s_l03Parts_ok (x r) (h:S.s_l03Parts x=some r):∃k,P.s_l03Parts k x=some r:=by
 obtain⟨m,ps,u⟩:=x;unfold S.s_l03Parts at h;dsimp only at h;split at h
 case isFalse=>cases h
 rename_i hc;obtain⟨hl,hm⟩:=hc;cases h;refine⟨ps.length+13,?_⟩;have hq:∀n,S.s_l00Has (ps,n,())=some (decide (n∈ps),()):=fun n=>by
  unfold S.s_l00Has;exact if_pos hl
 have lp2:∀top:Int,0<=top->top<=11->loopP P.s_l03Parts_b5 (ps.length+13) (0,top,ps,())=some (if hasAll ps (top+1).toNat=true then top+1 else 0,()):=by
  intro top h1 h2;obtain⟨t,ht⟩:=Int.eq_ofNat_of_zero_le (show 0<=top+1 by omega);have hw:wrap .i64 (top+1)=(t:Int):=by rw[wr (by omega) (by omega)];omega
  rw[ht,Int.toNat_natCast];have key:=loop_up0 (k:=ps.length+13) (b:=P.s_l03Parts_b5) (n:=t) (st:=fun i=>((i:Int),top,ps,())) (F:=fun i=>some (if(((List.range t).drop i).all fun k=>decide ((k:Int)∈ps))=true then(t:Int)else 0,())) (fun i g hi hg=>by
   unfold P.s_l03Parts_b5;dsimp only at hg ⊢;rw[if_pos (decide_eq_true (by omega)),hq,Option.bind_some];dsimp only;have hd:(List.range t).drop i=i::(List.range t).drop (i+1):=by
    rw[List.drop_eq_getElem_cons (by rw[List.length_range];exact hi),List.getElem_range]
   rw[hd,List.all_cons]
   by_cases he:(i:Int)∈ps
   ·rw[decide_eq_true he,if_neg (by decide),Bool.true_and,wr (by omega) (by omega)];exact hg
   ·rw[decide_eq_false he,if_pos (by decide),Bool.false_and,if_neg (by simp)]) (fun g=>by
   unfold P.s_l03Parts_b5;dsimp only;have hd:(List.range t).drop t=[]:=List.drop_eq_nil_of_le (by rw[List.length_range];exact Nat.le_refl _);rw[if_neg (by simp;omega),hd,hw];rfl) (by omega)
  rw[List.drop_zero]at key;exact key
 unfold P.s_l03Parts;dsimp only
 by_cases hn:ps.length=m.length
 case neg=>
  rw[if_pos (by simp;omega)];unfold pkN;rw[if_neg fun c=>hn c.1];rfl
 rw[if_neg (by simp;omega)];have key:=loop_up0 (k:=ps.length+13) (b:=P.s_l03Parts_b0 (ps.length+13)) (n:=ps.length) (st:=fun i=>((i:Int),(ps.length:Int),ps,mxI 0 (ps.take i),())) (F:=fun i=>if(ps.drop i).all inP=true then loopP P.s_l03Parts_b5 (ps.length+13) (0,mxI 0 ps,ps,())else some (0,())) (fun i g hi hg=>by
  unfold P.s_l03Parts_b0;dsimp only at hg ⊢;have e1:(i:Int)<(ps.length:Int):=by omega
  have e2:(0:Int)<=(i:Int):=by omega
  simp only[e1,e2,decide_true,if_true];rw[getD_cast ps i _ hi,sp_in,Option.bind_some];dsimp only;rw[List.drop_eq_getElem_cons hi,List.all_cons];cases hp:inP ps[i]
  ·rw[if_pos (by decide),Bool.false_and,if_neg (by simp)]
  ·rw[if_neg (by decide),Bool.true_and,sp_max,Option.bind_some];dsimp only;rw[wr (by omega) (by omega),<-mxI_snoc,List.take_append_getElem hi];exact hg) (fun g=>by
  unfold P.s_l03Parts_b0;dsimp only;rw[if_neg (by simp),List.drop_length,List.take_length];exact(if_pos rfl).symm) (by omega)
 rw[List.drop_zero]at key;refine key.trans ?_;unfold pkN
 by_cases ha:ps.all inP=true
 ·obtain⟨c1,c2⟩:=mxI_bnd (m:=0) ha (by decide);rw[if_pos ha,lp2 _ c1 c2]
  by_cases hh:hasAll ps (mxI 0 ps+1).toNat=true
  ·rw[if_pos hh,if_pos ⟨hn,ha,hh⟩];congr 2;omega
  ·rw[if_neg hh,if_neg fun c=>hh c.2.2];rfl
 ·rw[if_neg ha,if_neg fun c=>ha c.2.1];rfl
abbrev s_LumpChain.A:=Int×Int×List Int×Int×RB×List (List RB)×Int×List RB×Int×List (List ByteArray)×List (List RB)×Int×Int×Unit
abbrev s_LumpChain.B:=Int×Int×List RB×List RB×List (List ByteArray)×List (List RB)×List Int×Int×Int×Int×Int×List (List RB)×Unit
abbrev s_LumpChain.C:=Int×Int×List (List RB)×List Int×Int×List RB×List (List ByteArray)×List (List RB)×Int×Int×Unit
abbrev s_LumpChain.D:=Int×Int×Int×List (List RB)×List Int×List (List ByteArray)×List (List RB)×Unit
abbrev s_LumpChain.E:=Option (((List (List ByteArray×Nat)×Nat)×Bool)×Unit)
abbrev P.s_LumpChain_b9 (g7:s_LumpChain.C->s_LumpChain.E) (x10:s_LumpChain.A) (g11:s_LumpChain.A->s_LumpChain.E):s_LumpChain.E:=
 (fun(a b d h j n o:Int) (c:List Int) (e:RB) (f m:List (List RB)) (i:List RB) (l:List (List ByteArray))=>if decide (a<b)then if decide (0<=a)then if decide (a<(c.length:Int))then if(c.getD a.toNat 0)==d then if decide (0<=h)then if decide (h<(f.length:Int))then if decide (0<=a)then if decide (a<(List.length (f.getD h.toNat []):Int))then(S.s_l01Sum ((e.1,e.2.1,e.2.2),((List.getD (f.getD h.toNat []) a.toNat (false,[],[])).1,(List.getD (f.getD h.toNat []) a.toNat (false,[],[])).2.1,(List.getD (f.getD h.toNat []) a.toNat (false,[],[])).2.2),())).bind fun y12=>g11 (wrap .i64 (a+1),b,c,d,(y12.1.1,y12.1.2.1,y12.1.2.2),f,h,i,j,l,m,n,o,())else none else none else none else none else g11 (wrap .i64 (a+1),b,c,d,(e.1,e.2.1,e.2.2),f,h,i,j,l,m,n,o,())else none else none else if decide (((i.length+(List.length [(e.1,e.2.1,e.2.2)]))*56)<=140737488355328)then g7 (wrap .i64 (d+1),j,f,c,h,i++[(e.1,e.2.1,e.2.2)],l,m,n,o,())else none) x10.1 x10.2.1 x10.2.2.2.1 x10.2.2.2.2.2.2.1 x10.2.2.2.2.2.2.2.2.1 x10.2.2.2.2.2.2.2.2.2.2.2.1 x10.2.2.2.2.2.2.2.2.2.2.2.2.1 x10.2.2.1 x10.2.2.2.2.1 x10.2.2.2.2.2.1 x10.2.2.2.2.2.2.2.2.2.2.1 x10.2.2.2.2.2.2.2.1 x10.2.2.2.2.2.2.2.2.2.1
abbrev P.s_LumpChain_b13 (g4:s_LumpChain.D->s_LumpChain.E) (x14:s_LumpChain.B) (g15:s_LumpChain.B->s_LumpChain.E):s_LumpChain.E:=
 (fun(a b i j l m:Int) (c d:List RB) (e:List (List ByteArray)) (f n:List (List RB)) (h:List Int)=>if decide (a<b)then if decide (0<=a)then if decide (a<(c.length:Int))then if decide (0<=a)then if decide (a<(d.length:Int))then(S.s_l01Equal (((c.getD a.toNat (false,[],[])).1,(c.getD a.toNat (false,[],[])).2.1,(c.getD a.toNat (false,[],[])).2.2),((d.getD (0+a.toNat) (false,[],[])).1,(d.getD (0+a.toNat) (false,[],[])).2.1,(d.getD (0+a.toNat) (false,[],[])).2.2),())).bind fun y16=>if !y16.1 then some (((([]:List (List ByteArray×Nat)),0),false),())else g15 (wrap .i64 (a+1),b,c,d,e,f,h,i,j,l,m,n,())else none else none else none else none else if decide (0<=i)then if decide (i<(h.length:Int))then if decide (0<=(h.getD i.toNat 0))then if decide ((h.getD i.toNat 0)<(f.length:Int))then g4 (wrap .i64 (j+1),l,m,n,h,e,f.set (0+(Int.toNat (h.getD i.toNat 0))) d,())else none else none else none else none) x14.1 x14.2.1 x14.2.2.2.2.2.2.2.1 x14.2.2.2.2.2.2.2.2.1 x14.2.2.2.2.2.2.2.2.2.1 x14.2.2.2.2.2.2.2.2.2.2.1 x14.2.2.1 x14.2.2.2.1 x14.2.2.2.2.1 x14.2.2.2.2.2.1 x14.2.2.2.2.2.2.2.2.2.2.2.1 x14.2.2.2.2.2.2.1
abbrev P.s_LumpChain_b5 (k:Nat) (g4:s_LumpChain.D->s_LumpChain.E) (x6:s_LumpChain.C) (g7:s_LumpChain.C->s_LumpChain.E):s_LumpChain.E:=
 (fun(a b e j l:Int) (c i:List (List RB)) (d:List Int) (f:List RB) (h:List (List ByteArray))=>if decide (a<b)then(S.s_l01None ()).bind fun y8=>loopP (P.s_LumpChain_b9 g7) k (0,(c.length:Int),d,a,(y8.1.1,y8.1.2.1,y8.1.2.2),c,e,f,b,h,i,j,l,())else if b==0 then some (((([]:List (List ByteArray×Nat)),0),false),())else if decide (0<=e)then if decide (e<(d.length:Int))then if decide (0<=(d.getD e.toNat 0))then if decide ((d.getD e.toNat 0)<(i.length:Int))then loopP (P.s_LumpChain_b13 g4) k (0,(List.length (i.getD (0+(Int.toNat (d.getD e.toNat 0))) []):Int),i.getD (0+(Int.toNat (d.getD e.toNat 0))) [],f,h,i,d,e,j,l,b,c,())else none else none else none else none) x6.1 x6.2.1 x6.2.2.2.2.1 x6.2.2.2.2.2.2.2.2.1 x6.2.2.2.2.2.2.2.2.2.1 x6.2.2.1 x6.2.2.2.2.2.2.2.1 x6.2.2.2.1 x6.2.2.2.2.2.1 x6.2.2.2.2.2.2.1
abbrev P.s_LumpChain_b2 (k:Nat) (x3:s_LumpChain.D) (g4:s_LumpChain.D->s_LumpChain.E):s_LumpChain.E:=
 if decide (x3.1<x3.2.1)then loopP (P.s_LumpChain_b5 k g4) k (0,x3.2.2.1,x3.2.2.2.1,x3.2.2.2.2.1,x3.1,[],x3.2.2.2.2.2.1,x3.2.2.2.2.2.2.1,x3.1,x3.2.1,())else(S.s_l03Give (x3.2.2.2.2.2.2.1,())).bind fun y17=>if dup (List.map (fun(y18:Nat×Nat)=>y18.1) (hd0 y17.1.1.1))then none else some (((nrm (hd0 y17.1.1.1) (in0 y17.1.1.1),y17.1.1.2),y17.1.2),())
def P.s_LumpChain (k:Nat) (x:List (List ByteArray)×List Int×Unit):s_LumpChain.E:=
 (S.s_l03Parse (x.1,())).bind fun y0=>if !y0.1.2 then some (((([]:List (List ByteArray×Nat)),0),false),())else(S.s_l03Parts (y0.1.1,x.2.1,())).bind fun y1=>if decide (0<=y1.1)then if decide (y1.1<=y1.1)then if decide ((y1.1*24)<=281474976710656)then loopP (P.s_LumpChain_b2 k) k (0,(y0.1.1.length:Int),y1.1,y0.1.1,x.2.1,[],List.replicate y1.1.toNat ([]:List RB),())else none else none else none
theorem slc_row {M:List (List Q3)} (hM:isCh M) {ps:List Int} {p:Nat} (hpk:p=pkN ps M.length) (h0:p≠0) {i:Nat} (hi:i<M.length) (k:Nat) (hk:13<=k) (g4:s_LumpChain.D->s_LumpChain.E) (g7:s_LumpChain.C->s_LumpChain.E) (c:Nat) (hc:c<p) (F:s_LumpChain.E)
  (hg:g7 (((c+1:Nat):Int),(p:Int),mp B10 M,ps,(i:Int),(tab (c+1) fun z=>lmS M ps i z M.length).map (rp B10),[],lmV B10 M ps p i,(i:Int),(M.length:Int),())=F):
  P.s_LumpChain_b5 k g4 ((c:Int),(p:Int),mp B10 M,ps,(i:Int),(tab c fun z=>lmS M ps i z M.length).map (rp B10),[],lmV B10 M ps p i,(i:Int),(M.length:Int),()) g7=F:=by
 have hn12:M.length<=12:=hM.2.1.1;have hp12:p<=12:=by rw[hpk];exact pkN_le _ _
 have e4:∀q:Q3,((rp B10 q).1,(rp B10 q).2.1,(rp B10 q).2.2)=rp B10 q:=fun _=>rfl
 have z:S.s_l01None ()=some (rp B10 zeroQ,()):=by rfl
 unfold P.s_LumpChain_b5;dsimp only;rw[if_pos (decide_eq_true (show(c:Int)<(p:Int) by omega)),z,Option.bind_some,mp_len];dsimp only;exact loop_up0 (k:=k) (b:=P.s_LumpChain_b9 g7) (n:=M.length) (st:=fun j=>((j:Int),(M.length:Int),ps,(c:Int),rp B10 (lmS M ps i c j),mp B10 M,(i:Int),(tab c fun z=>lmS M ps i z M.length).map (rp B10),(p:Int),[],lmV B10 M ps p i,(i:Int),(M.length:Int),())) (F:=fun _=>F) (fun j g hj hgj=>by
  unfold P.s_LumpChain_b9;dsimp only at hgj ⊢;obtain⟨q1,q2,q3⟩:=pkN_prt (ps:=ps) (m:=M.length) (by rw[<-hpk];exact h0) hj;have e1:(j:Int)<(M.length:Int):=by omega
  have e2:(0:Int)<=(j:Int):=by omega
  have e3:(j:Int)<(ps.length:Int):=by omega
  have e5:(0:Int)<=(i:Int):=by omega
  have e6:(i:Int)<(M.length:Int):=by omega
  have hw:wrap .i64 ((j:Int)+1)=((j+1:Nat):Int):=by rw[wr (by omega) (by omega)];omega
  obtain⟨a1,a2⟩:=lmS_ok hM ps hi c j (by omega);obtain⟨c1,c2,_⟩:=ch_at hM hi hj;have ea:=rs_add a1 a2 c1 c2 (by omega) (by decide);rw[hw];have hs:lmS M ps i c (j+1)=if prt ps j=c then addQ (lmS M ps i c j) (mq M i j)else lmS M ps i c j:=rfl
  by_cases hk2:prt ps j=c
  ·have e7:(ps.getD j 0==(c:Int))=true:=by rw[q2,hk2,beq_self_eq_true]
   rw[if_pos hk2]at hs;rw[hs]at hgj;simp only[Int.toNat_natCast,e1,e2,e3,e5,e6,e7,mp_len,mq_wide hM.2.1 hi,mq_held hM.2.1 hi hj,e4,ea,decide_true,if_true,Option.bind_some];exact hgj
  ·have e7:(ps.getD j 0==(c:Int))=false:=by
    rw[q2];apply beq_false_of_ne;omega
   rw[if_neg hk2]at hs;rw[hs]at hgj;simp only[Int.toNat_natCast,e1,e2,e3,e7,e4,decide_true,if_true,Bool.false_eq_true,if_false];exact hgj) (fun g=>by
  unfold P.s_LumpChain_b9;dsimp only;have hw:wrap .i64 ((c:Int)+1)=((c+1:Nat):Int):=by rw[wr (by omega) (by omega)];omega
  rw[if_neg (by simp),hw,e4,if_pos (decide_eq_true (by rw[List.length_map,tab_len];simp only[List.length_cons,List.length_nil];omega)),tabm_snoc];exact hg) (by omega)
theorem slc_same {M:List (List Q3)} (hM:isCh M) {ps:List Int} {p:Nat} (hpk:p=pkN ps M.length) (h0:p≠0) {i:Nat} (hi:i<M.length) (k:Nat) (hk:13<=k) (g4:s_LumpChain.D->s_LumpChain.E) (F:s_LumpChain.E)
  (hg:g4 (((i+1:Nat):Int),(M.length:Int),(p:Int),mp B10 M,ps,[],lmV B10 M ps p (i+1),())=F):
  loopP (P.s_LumpChain_b13 g4) k (0,(((lmF M ps p i (prt ps i)).map (rp B10)).length:Int),(lmF M ps p i (prt ps i)).map (rp B10),(lmR M ps p i).map (rp B10),[],lmV B10 M ps p i,ps,(i:Int),(i:Int),(M.length:Int),(p:Int),mp B10 M,())=if stp M ps p i=true then F else some ((([],0),false),()):=by
 have hn12:M.length<=12:=hM.2.1.1;have hp12:p<=12:=by rw[hpk];exact pkN_le _ _
 have e4:∀q:Q3,((rp B10 q).1,(rp B10 q).2.1,(rp B10 q).2.2)=rp B10 q:=fun _=>rfl
 obtain⟨q1,q2,q3⟩:=pkN_prt (ps:=ps) (m:=M.length) (by rw[<-hpk];exact h0) hi;rw[<-hpk]at q3;have hfin:∀(g15:s_LumpChain.B->s_LumpChain.E) (a:Nat) (o:List Q3),¬(a<o.length)->P.s_LumpChain_b13 g4 ((a:Int),(o.length:Int),o.map (rp B10),(lmR M ps p i).map (rp B10),[],lmV B10 M ps p i,ps,(i:Int),(i:Int),(M.length:Int),(p:Int),mp B10 M,()) g15=F:=by
  intro g15 a o ha;unfold P.s_LumpChain_b13;dsimp only;have e1:(0:Int)<=(i:Int):=by omega
  have e2:(i:Int)<(ps.length:Int):=by omega
  have e3:(0:Int)<=(prt ps i:Int):=by omega
  have e5:(prt ps i:Int)<(p:Int):=by omega
  have hw:wrap .i64 ((i:Int)+1)=((i+1:Nat):Int):=by rw[wr (by omega) (by omega)];omega
  rw[if_neg (by simpa using(show ¬(a:Int)<(o.length:Int) by omega)),hw];simp only[Int.toNat_natCast,Nat.zero_add,q2,e1,e2,e3,e5,lmV_len,lmV_set,decide_true,if_true];exact hg
 rcases Classical.em (lmF M ps p i (prt ps i)=[])with he|he
 ·rw[he,if_pos ((stp_iff M ps p i (by omega)).2 (.inl he))];obtain⟨k',rfl⟩:∃k',k=k'+1:=⟨k - 1,by omega⟩
  exact hfin (loopP (P.s_LumpChain_b13 g4) k') 0 [] (by simp)
 ·obtain⟨j0,hj0,_,hr⟩:=lmF_row he;have ho:okq=okq:=rfl;have hl1:(lmF M ps p i (prt ps i)).length=p:=by rw[hr,lmR_len]
  have hok1:∀q∈lmF M ps p i (prt ps i),okq q:=by rw[hr];exact lmR_ok hM ps (by omega)
  have hst:=stp_iff M ps p i (by omega);generalize lmF M ps p i (prt ps i)=o at*;have hok2:=lmR_ok hM ps (p:=p) hi;have hl2:=lmR_len M ps p i;have hst2:stp M ps p i=true↔o=lmR M ps p i:=hst.trans ⟨fun c=>c.resolve_left he,Or.inr⟩;rw[List.length_map];have key:=loop_up0 (k:=k) (b:=P.s_LumpChain_b13 g4) (n:=o.length) (st:=fun a=>((a:Int),(o.length:Int),o.map (rp B10),(lmR M ps p i).map (rp B10),[],lmV B10 M ps p i,ps,(i:Int),(i:Int),(M.length:Int),(p:Int),mp B10 M,())) (F:=fun a=>if o.drop a=(lmR M ps p i).drop a then F else some ((([],0),false),())) (fun a g ha hga=>by
   unfold P.s_LumpChain_b13;dsimp only at hga ⊢;have e1:(a:Int)<(o.length:Int):=by omega
   have e2:(0:Int)<=(a:Int):=by omega
   have ha2:a<(lmR M ps p i).length:=by omega
   have e3:(a:Int)<((lmR M ps p i).length:Int):=by omega
   have g1:(o.map (rp B10)).getD a (false,(([]:List Int),([]:List Int)))=rp B10 o[a]:=by
    rw[List.getD_eq_getElem?_getD,List.getElem?_map,List.getElem?_eq_getElem ha];rfl
   have g2:((lmR M ps p i).map (rp B10)).getD a (false,(([]:List Int),([]:List Int)))=rp B10 (lmR M ps p i)[a]:=by
    rw[List.getD_eq_getElem?_getD,List.getElem?_map,List.getElem?_eq_getElem ha2];rfl
   have k1:=hok1 o[a] (List.getElem_mem ha);have k2:=hok2 (lmR M ps p i)[a] (List.getElem_mem ha2);have eq:=rs_equal k1.1 k2.1 k1.2 k2.2;have hw:wrap .i64 ((a:Int)+1)=((a+1:Nat):Int):=by rw[wr (by omega) (by omega)];omega
   rw[hw,List.drop_eq_getElem_cons ha,List.drop_eq_getElem_cons ha2];simp only[Int.toNat_natCast,Nat.zero_add,List.length_map,e1,e2,e3,g1,g2,e4,eq,decide_true,if_true,Option.bind_some]
   by_cases hc:o[a]=(lmR M ps p i)[a]
   ·rw[decide_eq_true hc,if_neg (by decide)];refine Eq.trans hga ?_;rw[hc]
    by_cases hd:o.drop (a+1)=(lmR M ps p i).drop (a+1)
    ·rw[if_pos hd,if_pos (by rw[hd])]
    ·rw[if_neg hd,if_neg fun e=>hd (List.cons.inj e).2]
   ·rw[decide_eq_false hc,if_pos (by decide),if_neg fun e=>hc (List.cons.inj e).1]) (fun g=>by
   rw[hfin _ o.length o (Nat.lt_irrefl _),if_pos (by rw[List.drop_length,List.drop_of_length_le (by omega)])]) (by omega)
  rw[List.drop_zero,List.drop_zero]at key;refine key.trans ?_
  by_cases hc:o=lmR M ps p i
  ·rw[if_pos hc,if_pos (hst2.2 hc)]
  ·rw[if_neg hc,if_neg fun e=>hc (hst2.1 e)]
open Classical in
def S.s_LumpChain (x:((List (List ByteArray))×((List Int)×Unit))):(Option (((((List ((List ByteArray)×Nat))×Nat))×Bool)×Unit)):=if x.1.all okT=true/\x.2.1.length<=1000000 then some (ownW (lmT x.1 x.2.1),())else none
theorem S.s_LumpChain_ok (x r) (h:S.s_LumpChain x=some r):∃k,P.s_LumpChain k x=some r:=by
 obtain⟨u,ps,un⟩:=x;unfold S.s_LumpChain at h;dsimp only at h;split at h
 case isFalse=>cases h
 rename_i hc;obtain⟨hu,hps⟩:=hc;cases h;refine⟨13,?_⟩;have hp:S.s_l03Parse (u,())=some ((mp B10 (chQ u).1,(chQ u).2),()):=by
  unfold S.s_l03Parse;exact if_pos hu
 unfold P.s_LumpChain lmT lmB;dsimp only;rw[hp,Option.bind_some];dsimp only;cases hL:(chQ u).2
 ·rw[if_pos (by decide),Bool.false_and,if_neg (by decide)];rfl
 obtain⟨hM,_⟩:=chQ_ok hL;generalize (chQ u).1=M at*;have hn12:M.length<=12:=hM.2.1.1;have hn1:=hM.1;have hpa:S.s_l03Parts (mp B10 M,ps,())=some ((pkN ps M.length:Int),()):=by
  unfold S.s_l03Parts;dsimp only;rw[if_pos ⟨hps,by rw[mp_len];omega⟩,mp_len]
 rw[if_neg (by decide),hpa,Option.bind_some,Bool.true_and];dsimp only;have hp12:=pkN_le ps M.length;generalize hpk:pkN ps M.length=p at*;rw[if_pos (decide_eq_true (by omega)),if_pos (decide_eq_true (Int.le_refl _)),if_pos (decide_eq_true (by omega)),Int.toNat_natCast,mp_len]
 by_cases h0:p=0
 ·subst h0;rw[if_neg (by simp)];show P.s_LumpChain_b2 13 _ _=_;unfold P.s_LumpChain_b2;dsimp only;rw[if_pos (decide_eq_true (by omega))];refine Eq.trans (b:=P.s_LumpChain_b5 13 (loopP (P.s_LumpChain_b2 13) 12) (0,((0:Nat):Int),mp B10 M,ps,0,[],[],List.replicate 0 [],0,(M.length:Int),()) (loopP (P.s_LumpChain_b5 13 (loopP (P.s_LumpChain_b2 13) 12)) 12)) rfl ?_;unfold P.s_LumpChain_b5;dsimp only;rw[if_neg (by decide),if_pos (by decide)];rfl
 rw[<-lmV_zero B10 M ps p];have key:=loop_up0 (k:=13) (b:=P.s_LumpChain_b2 13) (n:=M.length) (st:=fun i=>((i:Int),(M.length:Int),(p:Int),mp B10 M,ps,[],lmV B10 M ps p i,())) (F:=fun i=>if((List.range M.length).drop i).all (fun i=>stp M ps p i)=true then some (ownW (giveM (lmM M ps p)),())else some ((([],0),false),())) (fun i g hi hg=>by
  unfold P.s_LumpChain_b2;dsimp only at hg ⊢;obtain⟨q1,q2,q3⟩:=pkN_prt (ps:=ps) (m:=M.length) (by rw[hpk];exact h0) hi;rw[hpk]at q3;rw[if_pos (decide_eq_true (by omega))];have hd:(List.range M.length).drop i=i::(List.range M.length).drop (i+1):=by
   rw[List.drop_eq_getElem_cons (by rw[List.length_range];exact hi),List.getElem_range]
  rw[hd,List.all_cons];refine Eq.trans (loop_up0 (k:=13) (b:=P.s_LumpChain_b5 13 g) (n:=p) (st:=fun c=>((c:Int),(p:Int),mp B10 M,ps,(i:Int),(tab c fun z=>lmS M ps i z M.length).map (rp B10),[],lmV B10 M ps p i,(i:Int),(M.length:Int),())) (F:=fun _=>if stp M ps p i=true then(if((List.range M.length).drop (i+1)).all (fun i=>stp M ps p i)=true then some (ownW (giveM (lmM M ps p)),())else some ((([],0),false),()))else some ((([],0),false),())) (fun c g7 hc hg7=>slc_row hM hpk.symm h0 hi 13 (Nat.le_refl _) g g7 c hc _ hg7) (fun g7=>by
   unfold P.s_LumpChain_b5;dsimp only;have e1:(0:Int)<=(i:Int):=by omega
   have e2:(i:Int)<(ps.length:Int):=by omega
   have e3:(0:Int)<=(prt ps i:Int):=by omega
   have e5:(prt ps i:Int)<(p:Int):=by omega
   have e6:((p:Int)==0)=false:=by
    apply beq_false_of_ne;omega
   rw[if_neg (by simp)];simp only[Int.toNat_natCast,Nat.zero_add,q2,e1,e2,e3,e5,e6,lmV_len,lmV_at q3,decide_true,if_true,Bool.false_eq_true,if_false];exact slc_same hM hpk.symm h0 hi 13 (Nat.le_refl _) g _ hg) (by omega)) ?_
  cases hs:stp M ps p i
  ·rw[if_neg (by decide),Bool.false_and,if_neg (by decide)]
  ·rw[if_pos rfl,Bool.true_and]) (fun g=>by
  unfold P.s_LumpChain_b2;dsimp only;rw[if_neg (by simp),lmV_all,s_l03Give_eq (lmM_ok hM ps hp12),Option.bind_some];dsimp only;rw[hd0_dup,if_neg (by decide),nrm_hd0,List.drop_of_length_le (by rw[List.length_range];exact Nat.le_refl _)];rfl) (by omega)
 refine key.trans ?_;rw[List.drop_zero]
 by_cases hs:(List.range M.length).all (fun i=>stp M ps p i)=true
 ·rw[if_pos hs,if_pos (by rw[hs,decide_eq_true h0];rfl)]
 ·rw[if_neg hs,if_neg (by rw[Bool.and_eq_true];exact fun c=>hs c.2)];rfl
def P.math_bits_Mul64 (k:Nat) (x:Int×Int×Unit):Option ((Int×Int)×Unit):=
 some ((wrap .u64 ((wrap .u64 ((wrap .u64 ((Int.fdiv x.1 4294967296)*(Int.fdiv x.2.1 4294967296)))+(Int.fdiv (wrap .u64 ((wrap .u64 ((Int.fdiv x.1 4294967296)*(wrap .u64 ((BitVec.toNat ((BitVec.ofInt 64 x.2.1)&&& (BitVec.ofInt 64 4294967295)):Nat):Int))))+(Int.fdiv (wrap .u64 ((wrap .u64 ((BitVec.toNat ((BitVec.ofInt 64 x.1)&&& (BitVec.ofInt 64 4294967295)):Nat):Int))*(wrap .u64 ((BitVec.toNat ((BitVec.ofInt 64 x.2.1)&&& (BitVec.ofInt 64 4294967295)):Nat):Int)))) 4294967296))) 4294967296)))+(Int.fdiv (wrap .u64 ((wrap .u64 ((BitVec.toNat ((BitVec.ofInt 64 (wrap .u64 ((wrap .u64 ((Int.fdiv x.1 4294967296)*(wrap .u64 ((BitVec.toNat ((BitVec.ofInt 64 x.2.1)&&& (BitVec.ofInt 64 4294967295)):Nat):Int))))+(Int.fdiv (wrap .u64 ((wrap .u64 ((BitVec.toNat ((BitVec.ofInt 64 x.1)&&& (BitVec.ofInt 64 4294967295)):Nat):Int))*(wrap .u64 ((BitVec.toNat ((BitVec.ofInt 64 x.2.1)&&& (BitVec.ofInt 64 4294967295)):Nat):Int)))) 4294967296))))&&& (BitVec.ofInt 64 4294967295)):Nat):Int))+(wrap .u64 ((wrap .u64 ((BitVec.toNat ((BitVec.ofInt 64 x.1)&&& (BitVec.ofInt 64 4294967295)):Nat):Int))*(Int.fdiv x.2.1 4294967296))))) 4294967296)),wrap .u64 (x.1*x.2.1)),())
def S.math_bits_Mul64 (x:(Int×(Int×Unit))):(Option ((Int×Int)×Unit)):=P.math_bits_Mul64 0 x
theorem S.math_bits_Mul64_ok (x r) (h:S.math_bits_Mul64 x=some r):∃k,P.math_bits_Mul64 k x=some r:=⟨0,h⟩
def P.math_bits_Mul (k:Nat) (x:Int×Int×Unit):Option ((Int×Int)×Unit):=
 (S.math_bits_Mul64 (x.1,x.2.1,())).bind fun y0=>some ((y0.1.1,y0.1.2),())
def S.math_bits_Mul (x:(Int×(Int×Unit))):(Option ((Int×Int)×Unit)):=P.math_bits_Mul 0 x
theorem S.math_bits_Mul_ok (x r) (h:S.math_bits_Mul x=some r):∃k,P.math_bits_Mul k x=some r:=⟨0,h⟩
end Go.Cm
end
