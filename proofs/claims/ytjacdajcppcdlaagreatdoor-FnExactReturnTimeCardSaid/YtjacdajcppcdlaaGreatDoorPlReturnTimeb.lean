import Derived.Test.YtjacdajcppcdlaaGreatDoorPlReturnTimea
set_option linter.unusedVariables false
set_option maxRecDepth 100000
noncomputable section
namespace Go.Cm
open IntKind (wrap)
abbrev s_l01NatDiv.A:=Int×List Int×Int×Int×List Int×Int×List Int×Int×Unit
abbrev s_l01NatDiv.B:=Int×List Int×Int×List Int×List Int×Int×Unit
abbrev s_l01NatDiv.C:=Option ((List Int×List Int)×Unit)
abbrev P.s_l01NatDiv_b12 (g11:s_l01NatDiv.B->s_l01NatDiv.C) (x13:s_l01NatDiv.A) (g14:s_l01NatDiv.A->s_l01NatDiv.C):s_l01NatDiv.C:=
 (fun(a c d f i:Int) (b e h:List Int)=>if decide (a>=(1000000000:Int))then if decide ((0:Int)<=(IntKind.wrap .i64 (c - (1:Int))))then if decide ((IntKind.wrap .i64 (c - (1:Int)))<(b.length:Int))then if decide ((IntKind.wrap .i64 (d+(b.getD (Int.toNat (IntKind.wrap .i64 (c - (1:Int)))) (0:Int))))>=(1000000000:Int))then(S.s_l01TakeOff (e,b,f,IntKind.wrap .i64 (a - (1:Int)),())).bind fun y15=>if y15.1 then(S.s_l01PutBack (splice e y15.2.1 (0:Nat),b,f,())).bind fun y16=>if decide ((0:Int)<=f)then if decide (f<(h.length:Int))then g11 (IntKind.wrap .i64 (f - (1:Int)),splice (splice e y15.2.1 (0:Nat)) y16.2.1 (0:Nat),c,b,h.set ((0:Nat)+f.toNat) (IntKind.wrap .i64 ((IntKind.wrap .i64 (a - (1:Int))) - (1:Int))),i,())else none else none else if decide ((0:Int)<=f)then if decide (f<(h.length:Int))then g11 (IntKind.wrap .i64 (f - (1:Int)),splice e y15.2.1 (0:Nat),c,b,h.set ((0:Nat)+f.toNat) (IntKind.wrap .i64 (a - (1:Int))),i,())else none else none else g14 (IntKind.wrap .i64 (a - (1:Int)),b,c,IntKind.wrap .i64 (d+(b.getD (Int.toNat (IntKind.wrap .i64 (c - (1:Int)))) (0:Int))),e,f,h,i,())else none else none else if decide ((0:Int)<=(IntKind.wrap .i64 (c - (2:Int))))then if decide ((IntKind.wrap .i64 (c - (2:Int)))<(b.length:Int))then if decide ((0:Int)<=(IntKind.wrap .i64 ((IntKind.wrap .i64 (f+c)) - (2:Int))))then if decide ((IntKind.wrap .i64 ((IntKind.wrap .i64 (f+c)) - (2:Int)))<(e.length:Int))then if decide ((IntKind.wrap .i64 (a*(b.getD (Int.toNat (IntKind.wrap .i64 (c - (2:Int)))) (0:Int))))>(IntKind.wrap .i64 ((IntKind.wrap .i64 (d*(1000000000:Int)))+(e.getD ((0:Nat)+(Int.toNat (IntKind.wrap .i64 ((IntKind.wrap .i64 (f+c)) - (2:Int))))) (0:Int)))))then if decide ((0:Int)<=(IntKind.wrap .i64 (c - (1:Int))))then if decide ((IntKind.wrap .i64 (c - (1:Int)))<(b.length:Int))then if decide ((IntKind.wrap .i64 (d+(b.getD (Int.toNat (IntKind.wrap .i64 (c - (1:Int)))) (0:Int))))>=(1000000000:Int))then(S.s_l01TakeOff (e,b,f,IntKind.wrap .i64 (a - (1:Int)),())).bind fun y17=>if y17.1 then(S.s_l01PutBack (splice e y17.2.1 (0:Nat),b,f,())).bind fun y18=>if decide ((0:Int)<=f)then if decide (f<(h.length:Int))then g11 (IntKind.wrap .i64 (f - (1:Int)),splice (splice e y17.2.1 (0:Nat)) y18.2.1 (0:Nat),c,b,h.set ((0:Nat)+f.toNat) (IntKind.wrap .i64 ((IntKind.wrap .i64 (a - (1:Int))) - (1:Int))),i,())else none else none else if decide ((0:Int)<=f)then if decide (f<(h.length:Int))then g11 (IntKind.wrap .i64 (f - (1:Int)),splice e y17.2.1 (0:Nat),c,b,h.set ((0:Nat)+f.toNat) (IntKind.wrap .i64 (a - (1:Int))),i,())else none else none else g14 (IntKind.wrap .i64 (a - (1:Int)),b,c,IntKind.wrap .i64 (d+(b.getD (Int.toNat (IntKind.wrap .i64 (c - (1:Int)))) (0:Int))),e,f,h,i,())else none else none else(S.s_l01TakeOff (e,b,f,a,())).bind fun y19=>if y19.1 then(S.s_l01PutBack (splice e y19.2.1 (0:Nat),b,f,())).bind fun y20=>if decide ((0:Int)<=f)then if decide (f<(h.length:Int))then g11 (IntKind.wrap .i64 (f - (1:Int)),splice (splice e y19.2.1 (0:Nat)) y20.2.1 (0:Nat),c,b,h.set ((0:Nat)+f.toNat) (IntKind.wrap .i64 (a - (1:Int))),i,())else none else none else if decide ((0:Int)<=f)then if decide (f<(h.length:Int))then g11 (IntKind.wrap .i64 (f - (1:Int)),splice e y19.2.1 (0:Nat),c,b,h.set ((0:Nat)+f.toNat) a,i,())else none else none else none else none else none else none) x13.1 x13.2.2.1 x13.2.2.2.1 x13.2.2.2.2.2.1 x13.2.2.2.2.2.2.2.1 x13.2.1 x13.2.2.2.2.1 x13.2.2.2.2.2.2.1
abbrev P.s_l01NatDiv_b9 (k:Nat) (x10:s_l01NatDiv.B) (g11:s_l01NatDiv.B->s_l01NatDiv.C):s_l01NatDiv.C:=
 (fun(a c f:Int) (b d e:List Int)=>if decide (a>=(0:Int))then if decide ((0:Int)<=(IntKind.wrap .i64 (a+c)))then if decide ((IntKind.wrap .i64 (a+c))<(b.length:Int))then if decide ((0:Int)<=(IntKind.wrap .i64 ((IntKind.wrap .i64 (a+c)) - (1:Int))))then if decide ((IntKind.wrap .i64 ((IntKind.wrap .i64 (a+c)) - (1:Int)))<(b.length:Int))then if decide ((0:Int)<=(IntKind.wrap .i64 (c - (1:Int))))then if decide ((IntKind.wrap .i64 (c - (1:Int)))<(d.length:Int))then if decide ((d.getD (Int.toNat (IntKind.wrap .i64 (c - (1:Int)))) (0:Int))=(0:Int))then none else if decide ((0:Int)<=(IntKind.wrap .i64 (c - (1:Int))))then if decide ((IntKind.wrap .i64 (c - (1:Int)))<(d.length:Int))then if decide ((d.getD (Int.toNat (IntKind.wrap .i64 (c - (1:Int)))) (0:Int))=(0:Int))then none else loopP (P.s_l01NatDiv_b12 g11) k (IntKind.wrap .i64 (Int.tdiv (IntKind.wrap .i64 ((IntKind.wrap .i64 ((b.getD ((0:Nat)+(Int.toNat (IntKind.wrap .i64 (a+c)))) (0:Int))*(1000000000:Int)))+(b.getD ((0:Nat)+(Int.toNat (IntKind.wrap .i64 ((IntKind.wrap .i64 (a+c)) - (1:Int))))) (0:Int)))) (d.getD (Int.toNat (IntKind.wrap .i64 (c - (1:Int)))) (0:Int))),d,c,Int.tmod (IntKind.wrap .i64 ((IntKind.wrap .i64 ((b.getD ((0:Nat)+(Int.toNat (IntKind.wrap .i64 (a+c)))) (0:Int))*(1000000000:Int)))+(b.getD ((0:Nat)+(Int.toNat (IntKind.wrap .i64 ((IntKind.wrap .i64 (a+c)) - (1:Int))))) (0:Int)))) (d.getD (Int.toNat (IntKind.wrap .i64 (c - (1:Int)))) (0:Int)),b,a,e,f,())else none else none else none else none else none else none else none else none else(S.s_l01Trim (b,())).bind fun y21=>(S.s_l01ShortDiv (y21.1,f,())).bind fun y22=>(S.s_l01Trim (e,())).bind fun y23=>some ((y23.1,y22.1.1),())) x10.1 x10.2.2.1 x10.2.2.2.2.2.1 x10.2.1 x10.2.2.2.1 x10.2.2.2.2.1
def P.s_l01NatDiv (k:Nat) (x:List Int×List Int×Unit):s_l01NatDiv.C:=
 (S.s_l01Small (x.1,())).bind fun y0=>(S.s_l01Small (x.2.1,())).bind fun y1=>if y0.1.2 then if y1.1.2 then if decide (y1.1.1=(0:Int))then none else(S.s_l01Nat (IntKind.wrap .i64 (Int.tdiv y0.1.1 y1.1.1),())).bind fun y2=>if decide (y1.1.1=(0:Int))then none else(S.s_l01Nat (Int.tmod y0.1.1 y1.1.1,())).bind fun y3=>some ((y2.1,y3.1),())else(S.a0m (x.1,x.2.1,())).bind fun y4=>if decide (y4.1<(0:Int))then if decide ((((0:Nat)+x.1.length)*(8:Nat))<=(140737488355328:Nat))then some ((([]:List Int),([]:List Int)++x.1),())else none else if(x.2.1.length:Int)==(1:Int)then if decide ((0:Int)<(x.2.1.length:Int))then(S.s_l01ShortDiv (x.1,x.2.1.getD (0:Nat) (0:Int),())).bind fun y5=>(S.s_l01Nat (y5.1.2,())).bind fun y6=>some ((y5.1.1,y6.1),())else none else if decide ((0:Int)<=(IntKind.wrap .i64 ((x.2.1.length:Int) - (1:Int))))then if decide ((IntKind.wrap .i64 ((x.2.1.length:Int) - (1:Int)))<(x.2.1.length:Int))then if decide ((IntKind.wrap .i64 ((x.2.1.getD (Int.toNat (IntKind.wrap .i64 ((x.2.1.length:Int) - (1:Int)))) (0:Int))+(1:Int)))=(0:Int))then none else if decide ((0:Int)<=(IntKind.wrap .i64 ((x.1.length:Int)+(1:Int))))then if decide ((IntKind.wrap .i64 ((x.1.length:Int)+(1:Int)))<=(IntKind.wrap .i64 ((x.1.length:Int)+(1:Int))))then if decide (((IntKind.wrap .i64 ((x.1.length:Int)+(1:Int)))*(8:Int))<=(281474976710656:Int))then(S.s_l01ShortMul (x.1,IntKind.wrap .i64 (Int.tdiv (1000000000:Int) (IntKind.wrap .i64 ((x.2.1.getD (Int.toNat (IntKind.wrap .i64 ((x.2.1.length:Int) - (1:Int)))) (0:Int))+(1:Int)))),())).bind fun y7=>(S.s_l01ShortMul (x.2.1,IntKind.wrap .i64 (Int.tdiv (1000000000:Int) (IntKind.wrap .i64 ((x.2.1.getD (Int.toNat (IntKind.wrap .i64 ((x.2.1.length:Int) - (1:Int)))) (0:Int))+(1:Int)))),())).bind fun y8=>if decide ((0:Int)<=(IntKind.wrap .i64 ((List.length (splice (List.replicate (Int.toNat (IntKind.wrap .i64 ((x.1.length:Int)+(1:Int)))) (0:Int)) (List.take (List.length (List.replicate (Int.toNat (IntKind.wrap .i64 ((x.1.length:Int)+(1:Int)))) (0:Int))) y7.1) (0:Nat)):Int) - (y8.1.length:Int))))then if decide ((IntKind.wrap .i64 ((List.length (splice (List.replicate (Int.toNat (IntKind.wrap .i64 ((x.1.length:Int)+(1:Int)))) (0:Int)) (List.take (List.length (List.replicate (Int.toNat (IntKind.wrap .i64 ((x.1.length:Int)+(1:Int)))) (0:Int))) y7.1) (0:Nat)):Int) - (y8.1.length:Int)))<=(IntKind.wrap .i64 ((List.length (splice (List.replicate (Int.toNat (IntKind.wrap .i64 ((x.1.length:Int)+(1:Int)))) (0:Int)) (List.take (List.length (List.replicate (Int.toNat (IntKind.wrap .i64 ((x.1.length:Int)+(1:Int)))) (0:Int))) y7.1) (0:Nat)):Int) - (y8.1.length:Int))))then if decide (((IntKind.wrap .i64 ((List.length (splice (List.replicate (Int.toNat (IntKind.wrap .i64 ((x.1.length:Int)+(1:Int)))) (0:Int)) (List.take (List.length (List.replicate (Int.toNat (IntKind.wrap .i64 ((x.1.length:Int)+(1:Int)))) (0:Int))) y7.1) (0:Nat)):Int) - (y8.1.length:Int)))*(8:Int))<=(281474976710656:Int))then loopP (P.s_l01NatDiv_b9 k) k (IntKind.wrap .i64 ((IntKind.wrap .i64 ((List.length (splice (List.replicate (Int.toNat (IntKind.wrap .i64 ((x.1.length:Int)+(1:Int)))) (0:Int)) (List.take (List.length (List.replicate (Int.toNat (IntKind.wrap .i64 ((x.1.length:Int)+(1:Int)))) (0:Int))) y7.1) (0:Nat)):Int) - (y8.1.length:Int))) - (1:Int)),splice (List.replicate (Int.toNat (IntKind.wrap .i64 ((x.1.length:Int)+(1:Int)))) (0:Int)) (List.take (List.length (List.replicate (Int.toNat (IntKind.wrap .i64 ((x.1.length:Int)+(1:Int)))) (0:Int))) y7.1) (0:Nat),(y8.1.length:Int),y8.1,List.replicate (Int.toNat (IntKind.wrap .i64 ((List.length (splice (List.replicate (Int.toNat (IntKind.wrap .i64 ((x.1.length:Int)+(1:Int)))) (0:Int)) (List.take (List.length (List.replicate (Int.toNat (IntKind.wrap .i64 ((x.1.length:Int)+(1:Int)))) (0:Int))) y7.1) (0:Nat)):Int) - (y8.1.length:Int)))) (0:Int),IntKind.wrap .i64 (Int.tdiv (1000000000:Int) (IntKind.wrap .i64 ((x.2.1.getD (Int.toNat (IntKind.wrap .i64 ((x.2.1.length:Int) - (1:Int)))) (0:Int))+(1:Int)))),())else none else none else none else none else none else none else none else none else(S.a0m (x.1,x.2.1,())).bind fun y24=>if decide (y24.1<(0:Int))then if decide ((((0:Nat)+x.1.length)*(8:Nat))<=(140737488355328:Nat))then some ((([]:List Int),([]:List Int)++x.1),())else none else if(x.2.1.length:Int)==(1:Int)then if decide ((0:Int)<(x.2.1.length:Int))then(S.s_l01ShortDiv (x.1,x.2.1.getD (0:Nat) (0:Int),())).bind fun y25=>(S.s_l01Nat (y25.1.2,())).bind fun y26=>some ((y25.1.1,y26.1),())else none else if decide ((0:Int)<=(IntKind.wrap .i64 ((x.2.1.length:Int) - (1:Int))))then if decide ((IntKind.wrap .i64 ((x.2.1.length:Int) - (1:Int)))<(x.2.1.length:Int))then if decide ((IntKind.wrap .i64 ((x.2.1.getD (Int.toNat (IntKind.wrap .i64 ((x.2.1.length:Int) - (1:Int)))) (0:Int))+(1:Int)))=(0:Int))then none else if decide ((0:Int)<=(IntKind.wrap .i64 ((x.1.length:Int)+(1:Int))))then if decide ((IntKind.wrap .i64 ((x.1.length:Int)+(1:Int)))<=(IntKind.wrap .i64 ((x.1.length:Int)+(1:Int))))then if decide (((IntKind.wrap .i64 ((x.1.length:Int)+(1:Int)))*(8:Int))<=(281474976710656:Int))then(S.s_l01ShortMul (x.1,IntKind.wrap .i64 (Int.tdiv (1000000000:Int) (IntKind.wrap .i64 ((x.2.1.getD (Int.toNat (IntKind.wrap .i64 ((x.2.1.length:Int) - (1:Int)))) (0:Int))+(1:Int)))),())).bind fun y27=>(S.s_l01ShortMul (x.2.1,IntKind.wrap .i64 (Int.tdiv (1000000000:Int) (IntKind.wrap .i64 ((x.2.1.getD (Int.toNat (IntKind.wrap .i64 ((x.2.1.length:Int) - (1:Int)))) (0:Int))+(1:Int)))),())).bind fun y28=>if decide ((0:Int)<=(IntKind.wrap .i64 ((List.length (splice (List.replicate (Int.toNat (IntKind.wrap .i64 ((x.1.length:Int)+(1:Int)))) (0:Int)) (List.take (List.length (List.replicate (Int.toNat (IntKind.wrap .i64 ((x.1.length:Int)+(1:Int)))) (0:Int))) y27.1) (0:Nat)):Int) - (y28.1.length:Int))))then if decide ((IntKind.wrap .i64 ((List.length (splice (List.replicate (Int.toNat (IntKind.wrap .i64 ((x.1.length:Int)+(1:Int)))) (0:Int)) (List.take (List.length (List.replicate (Int.toNat (IntKind.wrap .i64 ((x.1.length:Int)+(1:Int)))) (0:Int))) y27.1) (0:Nat)):Int) - (y28.1.length:Int)))<=(IntKind.wrap .i64 ((List.length (splice (List.replicate (Int.toNat (IntKind.wrap .i64 ((x.1.length:Int)+(1:Int)))) (0:Int)) (List.take (List.length (List.replicate (Int.toNat (IntKind.wrap .i64 ((x.1.length:Int)+(1:Int)))) (0:Int))) y27.1) (0:Nat)):Int) - (y28.1.length:Int))))then if decide (((IntKind.wrap .i64 ((List.length (splice (List.replicate (Int.toNat (IntKind.wrap .i64 ((x.1.length:Int)+(1:Int)))) (0:Int)) (List.take (List.length (List.replicate (Int.toNat (IntKind.wrap .i64 ((x.1.length:Int)+(1:Int)))) (0:Int))) y27.1) (0:Nat)):Int) - (y28.1.length:Int)))*(8:Int))<=(281474976710656:Int))then loopP (P.s_l01NatDiv_b9 k) k (IntKind.wrap .i64 ((IntKind.wrap .i64 ((List.length (splice (List.replicate (Int.toNat (IntKind.wrap .i64 ((x.1.length:Int)+(1:Int)))) (0:Int)) (List.take (List.length (List.replicate (Int.toNat (IntKind.wrap .i64 ((x.1.length:Int)+(1:Int)))) (0:Int))) y27.1) (0:Nat)):Int) - (y28.1.length:Int))) - (1:Int)),splice (List.replicate (Int.toNat (IntKind.wrap .i64 ((x.1.length:Int)+(1:Int)))) (0:Int)) (List.take (List.length (List.replicate (Int.toNat (IntKind.wrap .i64 ((x.1.length:Int)+(1:Int)))) (0:Int))) y27.1) (0:Nat),(y28.1.length:Int),y28.1,List.replicate (Int.toNat (IntKind.wrap .i64 ((List.length (splice (List.replicate (Int.toNat (IntKind.wrap .i64 ((x.1.length:Int)+(1:Int)))) (0:Int)) (List.take (List.length (List.replicate (Int.toNat (IntKind.wrap .i64 ((x.1.length:Int)+(1:Int)))) (0:Int))) y27.1) (0:Nat)):Int) - (y28.1.length:Int)))) (0:Int),IntKind.wrap .i64 (Int.tdiv (1000000000:Int) (IntKind.wrap .i64 ((x.2.1.getD (Int.toNat (IntKind.wrap .i64 ((x.2.1.length:Int) - (1:Int)))) (0:Int))+(1:Int)))),())else none else none else none else none else none else none else none else none
theorem nd_tail (g:(Int×((List Int)×(Int×((List Int)×((List Int)×(Int×Unit))))))->(Option (((List Int)×(List Int))×Unit))) (F:Option (((List Int)×(List Int))×Unit)) {u0 vs:List Int} {m j:Nat} {d:Int}
  (h0:dig B10 u0=true) (hv:dig B10 vs=true) (hN:u0.length=m+vs.length) (hbig:u0.length<=100000000000) (hj:j<m) (hV:0<a0c B10 vs)
  (hg:g ((j:Int) - 1,(ldU B10 (a0c B10 vs) u0 j,((vs.length:Int),(vs,(ldQ B10 (a0c B10 vs) u0 m j,(d,()))))))=F)
  (q:Nat) (hq:q<1000000000) (h1:ldW B10 (a0c B10 vs) u0 j/a0c B10 vs<=q) (h2:q*a0c B10 vs<ldW B10 (a0c B10 vs) u0 j+a0c B10 vs) (q':Int) (hq':q'=(q:Int)):
  (Option.bind (S.s_l01TakeOff (ldU B10 (a0c B10 vs) u0 (j+1),(vs,((j:Int),(q',()))))) (fun(y19:(Bool×((List Int)×Unit)))=>(if(y19.1=true)then(Option.bind (S.s_l01PutBack ((Go.Cm.splice (ldU B10 (a0c B10 vs) u0 (j+1)) y19.2.1 (0:Nat)),(vs,((j:Int),())))) (fun(y20:(Unit×((List Int)×Unit)))=>(if((decide ((0:Int)<=(j:Int)))=true)then(if((decide ((j:Int)<((List.length (ldQ B10 (a0c B10 vs) u0 m (j+1))):Int)))=true)then(g ((IntKind.wrap .i64 ((j:Int) - (1:Int))),((Go.Cm.splice (Go.Cm.splice (ldU B10 (a0c B10 vs) u0 (j+1)) y19.2.1 (0:Nat)) y20.2.1 (0:Nat)),((vs.length:Int),(vs,((List.set (ldQ B10 (a0c B10 vs) u0 m (j+1)) ((0:Nat)+(Int.toNat (j:Int))) (IntKind.wrap .i64 (q' - (1:Int)))),(d,())))))))
 else none)
 else none)))
 else(if((decide ((0:Int)<=(j:Int)))=true)then(if((decide ((j:Int)<((List.length (ldQ B10 (a0c B10 vs) u0 m (j+1))):Int)))=true)then(g ((IntKind.wrap .i64 ((j:Int) - (1:Int))),((Go.Cm.splice (ldU B10 (a0c B10 vs) u0 (j+1)) y19.2.1 (0:Nat)),((vs.length:Int),(vs,((List.set (ldQ B10 (a0c B10 vs) u0 m (j+1)) ((0:Nat)+(Int.toNat (j:Int))) q'),(d,())))))))
 else none)
 else none))))=F:=by
 subst hq';have hhi:=dval_lt hv;have hA:(u0.take j).length=j:=by simp;omega
 have hQ:=ld_Q a0d hV h0 (show j<u0.length by omega) hj;have hQl:(ldQ B10 (a0c B10 vs) u0 m (j+1)).length=m:=by unfold ldQ;rw[List.length_append,List.length_replicate,fd_len];omega
 have hUl:=ld_U_lt a0d hV h0 hN hj hhi;have hs:=ld_shape a0d hV h0 hN hj hhi;have hs':=ld_shape' a0d hV h0 hN hj hhi;generalize hn:vs.length=n at*;generalize hVV:a0c B10 vs=V at*;generalize hUU:ldW B10 V u0 j=U at*;generalize hR:List.replicate (m - 1 - j) (0:Int)=R at*;have hRl:R.length=m - 1 - j:=by rw[<-hR,List.length_replicate]
 have hUB:U/B10^n<1000000000:=by
  have:U/B10^n<B10:=by
   rw[Nat.div_lt_iff_lt_mul (Nat.pow_pos (by decide)),Nat.mul_comm,<-Nat.pow_succ];exact hUl
  exact this
 have hma:a0c B10 (fd B10 n U)+B10^n*(U/B10^n)=U:=by rw[dval_fd];exact Nat.mod_add_div _ _
 have hdm:=Nat.mod_add_div U V;have hml:=Nat.mod_lt U hV;obtain⟨n1,n2⟩:=near hV h1 h2;generalize U/B10^n=ut at*;generalize U/V=Q at*;generalize U%V=M at*;have e1:(0:Int)<=(j:Int):=by omega
 have e2:(j:Int)<(m:Int):=by omega
 rw[hs];have hlen:∀(T:Int) (X:Nat),((u0.take j++fd B10 n X)++T::R).length=j+n+1+R.length:=fun T X=>sh_len hA (fd_len _ _ _)
 unfold S.s_l01TakeOff;dsimp only;simp only[Int.toNat_natCast,hn,hVV,hQl,e1,e2,decide_true,if_true,Nat.zero_add];rw[sh_take hA,sh_win hA (fd_len _ _ _),sh_top hA (fd_len _ _ _),sh_drop hA (fd_len _ _ _),hlen];rw[if_pos ⟨by first|trivial|omega,by omega,dig_fd (by decide) _ _,hv,by omega,by omega,by omega,by omega,by omega⟩,Option.bind_some];dsimp only;rw[<-Int.natCast_mul,<-Int.natCast_add,hma]
 by_cases hle:q*V<=U
 ·have hqe:=n1 hle;have eT:(U:Int) - ((V*q:Nat):Int)=((M:Nat):Int)+((B10^n:Nat):Int)*0:=by
   rw[hqe];omega
  rw[eT,(ediv_top (Nat.lt_trans hml hhi) 0).1,(ediv_top (Nat.lt_trans hml hhi) 0).2,Int.toNat_natCast,if_neg (by simp),<-hs',splice_all (by rw[hs',hlen,hlen]),hqe,hQ,wr (by omega) (by omega)];exact hg
 ·have hqe:=n2 (by omega);have hx:B10^n+M - V<B10^n:=by omega
  have eT:(U:Int) - ((V*q:Nat):Int)=((B10^n+M - V:Nat):Int)+((B10^n:Nat):Int)*(-1):=by
   rw[hqe,Nat.mul_add];omega
  rw[eT,(ediv_top hx (-1)).1,(ediv_top hx (-1)).2,Int.toNat_natCast,if_pos (by rfl),splice_all (by rw[hlen,hlen])];unfold S.s_l01PutBack;dsimp only;simp only[Int.toNat_natCast,hn,hVV];rw[sh_take hA,sh_win hA (fd_len _ _ _),sh_top hA (fd_len _ _ _),sh_drop hA (fd_len _ _ _),hlen];rw[if_pos ⟨by first|trivial|omega,by omega,dig_fd (by decide) _ _,hv,by omega,by omega,by omega⟩,Option.bind_some];dsimp only;have eT2:((a0c B10 (fd B10 n (B10^n+M - V)):Nat):Int)+((B10^n:Nat):Int)* -1+(V:Int)=((M:Nat):Int)+((B10^n:Nat):Int)*0:=by
   rw[dval_fd,Nat.mod_eq_of_lt hx];omega
  rw[eT2,(ediv_top (Nat.lt_trans hml hhi) 0).1,(ediv_top (Nat.lt_trans hml hhi) 0).2,Int.toNat_natCast,<-hs',splice_all (by rw[hs',hlen,hlen]),hqe,wr (x:=((Q+1:Nat):Int) - 1) (by omega) (by omega),show((Q+1:Nat):Int) - 1=((Q:Nat):Int) by omega,hQ,wr (by omega) (by omega)];exact hg
theorem nd_inner (g:(Int×((List Int)×(Int×((List Int)×((List Int)×(Int×Unit))))))->(Option (((List Int)×(List Int))×Unit))) (F:Option (((List Int)×(List Int))×Unit)) {u0 vs:List Int} {m j:Nat} {d:Int}
  (h0:dig B10 u0=true) (hv:dig B10 vs=true) (hN:u0.length=m+vs.length) (hbig:u0.length<=100000000000) (hj:j<m) (hn2:2<=vs.length) (hlo:B10^(vs.length - 1)<=a0c B10 vs)
  (hg:g ((j:Int) - 1,(ldU B10 (a0c B10 vs) u0 j,((vs.length:Int),(vs,(ldQ B10 (a0c B10 vs) u0 m j,(d,()))))))=F) (w:Nat):
  ∀q r k:Nat,q*(a0c B10 vs/B10^(vs.length - 1))+r=ldW B10 (a0c B10 vs) u0 j/B10^(vs.length - 1)->ldW B10 (a0c B10 vs) u0 j/a0c B10 vs<=q->r<1000000000->1000000000 - r<=w->w<k->q<=2000000000000000000->
  loopP (P.s_l01NatDiv_b12 g) k ((q:Int),(vs,((vs.length:Int),((r:Int),(ldU B10 (a0c B10 vs) u0 (j+1),((j:Int),(ldQ B10 (a0c B10 vs) u0 m (j+1),(d,()))))))))=F:=by
 have hV:0<a0c B10 vs:=Nat.lt_of_lt_of_le (Nat.pow_pos (by decide)) hlo;have hhi:=dval_lt hv;have hU:=ld_lt a0d hV h0 (show j<u0.length by omega);have win:=ld_win a0d hn2 hlo hhi hU;have htail:=fun q hq h1 h2 q' hq'=>nd_tail g F h0 hv hN hbig hj hV hg q hq h1 h2 q' hq'
 have g1:=dig_low a0d hv (i:=vs.length - 1) (by omega);have g2:=dig_low a0d hv (i:=vs.length - 2) (by omega);have g3:=ld_get a0d hV h0 hN hj hhi (i:=vs.length - 2) (by omega);have hsl:(ldU B10 (a0c B10 vs) u0 (j+1)).length=m+vs.length:=by unfold ldU;rw[List.length_append,fd_len,List.length_take];omega
 have hv1B:a0c B10 vs/B10^(vs.length - 1)<1000000000:=by
  have:a0c B10 vs/B10^(vs.length - 1)<B10:=by
   rw[Nat.div_lt_iff_lt_mul (Nat.pow_pos (by decide)),Nat.mul_comm,<-Nat.pow_succ,show(vs.length - 1).succ=vs.length by omega];exact hhi
  exact this
 have g1':a0c B10 vs/B10^(vs.length - 1)%B10=a0c B10 vs/B10^(vs.length - 1):=Nat.mod_eq_of_lt hv1B;rw[g1']at g1;have hv1:=win.hv1;generalize hX:ldW B10 (a0c B10 vs) u0 j/B10^(vs.length - 1)=X at*;generalize hv1e:a0c B10 vs/B10^(vs.length - 1)=v1 at*;have hv2B:a0c B10 vs/B10^(vs.length - 2)%B10<1000000000:=win.hv2;have hu2B:ldW B10 (a0c B10 vs) u0 j/B10^(vs.length - 2)%B10<1000000000:=win.hu2;generalize hv2e:a0c B10 vs/B10^(vs.length - 2)%B10=v2 at*;generalize hu2e:ldW B10 (a0c B10 vs) u0 j/B10^(vs.length - 2)%B10=u2 at*
 induction w with
 |zero=>intro q r k _ _ hr hw;omega
 |succ w ih=>
  intro q r k e hq hr hw hk hqb;obtain⟨k,rfl⟩:∃k',k=k'+1:=⟨k - 1,by omega⟩
  rw[a0k];unfold P.s_l01NatDiv_b12;dsimp only;have c1:(0:Int)<=(vs.length:Int) - 1:=by omega
  have c2:(vs.length:Int) - 1<(vs.length:Int):=by omega
  have c3:(0:Int)<=(vs.length:Int) - 2:=by omega
  have c4:(vs.length:Int) - 2<(vs.length:Int):=by omega
  have c5:(0:Int)<=(j:Int)+(vs.length:Int) - 2:=by omega
  have c6:(j:Int)+(vs.length:Int) - 2<((m+vs.length:Nat):Int):=by omega
  rw[hsl,wr (x:=(vs.length:Int) - 1) (by omega) (by omega),wr (x:=(vs.length:Int) - 2) (by omega) (by omega),wr (x:=(j:Int)+(vs.length:Int)) (by omega) (by omega),wr (x:=(j:Int)+(vs.length:Int) - 2) (by omega) (by omega)];simp only[c1,c2,c3,c4,c5,c6,decide_true,if_true];rw[show((vs.length:Int) - 1).toNat=vs.length - 1 by omega,show((vs.length:Int) - 2).toNat=vs.length - 2 by omega,show 0+((j:Int)+(vs.length:Int) - 2).toNat=j+(vs.length - 2) by omega,g1,g2,g3,wr (x:=(r:Int)+(v1:Int)) (by omega) (by omega)];have hstep:ldW B10 (a0c B10 vs) u0 j/a0c B10 vs<q->((r:Int)+(v1:Int)>=1000000000->(q - 1)<1000000000/\ldW B10 (a0c B10 vs) u0 j/a0c B10 vs<=q - 1/\(q - 1)*a0c B10 vs<ldW B10 (a0c B10 vs) u0 j+a0c B10 vs/\IntKind.wrap .i64 ((q:Int) - 1)=((q - 1:Nat):Int))/\(¬((r:Int)+(v1:Int)>=1000000000)->loopP (P.s_l01NatDiv_b12 g) k (IntKind.wrap .i64 ((q:Int) - 1),(vs,((vs.length:Int),((r:Int)+(v1:Int),(ldU B10 (a0c B10 vs) u0 (j+1),((j:Int),(ldQ B10 (a0c B10 vs) u0 m (j+1),(d,()))))))))=F):=by
   intro hlt;have hq1:1<=q:=Nat.lt_of_le_of_lt (Nat.zero_le _) hlt;have eq1:IntKind.wrap .i64 ((q:Int) - 1)=((q - 1:Nat):Int):=by
    rw[wr (by omega) (by omega)];omega
   have e':(q - 1)*v1+(r+v1)=X:=by
    obtain⟨p,rfl⟩:∃p,q=p+1:=⟨q - 1,by omega⟩
    rw[Nat.add_mul,Nat.one_mul]at e;rw[Nat.add_sub_cancel];omega
   constructor
   ·intro hge;have hd:=win.done e' (.inr (show(1000000000:Nat)<=r+v1 by omega));exact⟨hd.1,by omega,hd.2,eq1⟩
   ·intro hge;rw[eq1,<-Int.natCast_add];exact ih (q - 1) (r+v1) k e' (by omega) (by omega) (by omega) (by omega) (by omega)
  by_cases b1:q>=1000000000
  ·rw[if_pos (decide_eq_true (by omega))];obtain⟨s1,s2⟩:=hstep (win.down e hq (.inl b1))
   by_cases b2:(r:Int)+(v1:Int)>=1000000000
   ·rw[if_pos (decide_eq_true b2)];obtain⟨t1,t2,t3,t4⟩:=s1 b2;exact htail (q - 1) t1 t2 t3 _ t4
   ·rw[if_neg (by simpa using b2)];exact s2 b2
  ·rw[if_neg (by simp;omega)];have hqv:q*v2<=999999999*999999999:=Nat.mul_le_mul (by omega) (by omega);rw[<-Int.natCast_mul,wr (x:=((q*v2:Nat):Int)) (by omega) (by omega),wr (x:=(r:Int)*1000000000) (by omega) (by omega),wr (x:=(r:Int)*1000000000+(u2:Int)) (by omega) (by omega)]
   by_cases b3:q*v2>r*1000000000+u2
   ·rw[if_pos (decide_eq_true (by omega))];obtain⟨s1,s2⟩:=hstep (win.down e hq (.inr b3))
    by_cases b2:(r:Int)+(v1:Int)>=1000000000
    ·rw[if_pos (decide_eq_true b2)];obtain⟨t1,t2,t3,t4⟩:=s1 b2;exact htail (q - 1) t1 t2 t3 _ t4
    ·rw[if_neg (by simpa using b2)];exact s2 b2
   ·rw[if_neg (by simp;omega)];have hd:=win.done e (.inl ⟨show q<B10 by show q<1000000000;omega,show q*v2<=r*B10+u2 by show q*v2<=r*1000000000+u2;omega⟩);exact htail q hd.1 hq hd.2 _ rfl
theorem nd_outer {u0 vs:List Int} {m d:Nat}
  (h0:dig B10 u0=true) (hv:dig B10 vs=true) (hN:u0.length=m+vs.length) (hbig:u0.length<=100000000000) (hn2:2<=vs.length) (hlo:B10^(vs.length - 1)<=a0c B10 vs) (hd:0<d) (hd1:d<=1000000000) (ht:a0c B10 (u0.drop m)<a0c B10 vs):
  loopP (P.s_l01NatDiv_b9 (m+1000000010)) (m+1000000010) ((m:Int) - 1,(u0,((vs.length:Int),(vs,(List.replicate m 0,((d:Int),()))))))=some ((nd B10 (a0c B10 u0/a0c B10 vs),nd B10 (a0c B10 u0%a0c B10 vs/d)),()):=by
 have hV:0<a0c B10 vs:=Nat.lt_of_lt_of_le (Nat.pow_pos (by decide)) hlo;have hhi:=dval_lt hv;obtain⟨f1,f2⟩:=ld_first a0d hV h0 (show m<=u0.length by omega) ht;have key:=a0g (k:=m+1000000010) (b:=P.s_l01NatDiv_b9 (m+1000000010)) (n:=m) (st:=fun i=>((m:Int) - 1 - (i:Int),ldU B10 (a0c B10 vs) u0 (m - i),(vs.length:Int),vs,ldQ B10 (a0c B10 vs) u0 m (m - i),(d:Int),())) (F:=fun i=>some ((nd B10 (a0c B10 u0/a0c B10 vs),nd B10 (a0c B10 u0%a0c B10 vs/d)),())) (fun i g hi hg=>by
  unfold P.s_l01NatDiv_b9;dsimp only at hg ⊢;obtain⟨j,hj⟩:∃j,m - i=j+1:=⟨m - i - 1,by omega⟩
  have hjm:j<m:=by omega
  rw[show m - (i+1)=j by omega,show(m:Int) - 1 - ((i+1:Nat):Int)=(j:Int) - 1 by omega]at hg;rw[hj,show(m:Int) - 1 - (i:Int)=(j:Int) by omega];have hU:=ld_lt a0d hV h0 (show j<u0.length by omega);have win:=ld_win a0d hn2 hlo hhi hU;have g1:=dig_low a0d hv (i:=vs.length - 1) (by omega);have g3:=ld_get a0d hV h0 hN hjm hhi (i:=vs.length) (by omega);have g4:=ld_get a0d hV h0 hN hjm hhi (i:=vs.length - 1) (by omega);have hsl:(ldU B10 (a0c B10 vs) u0 (j+1)).length=m+vs.length:=by unfold ldU;rw[List.length_append,fd_len,List.length_take];omega
  have hv1B:a0c B10 vs/B10^(vs.length - 1)<1000000000:=by
   have:a0c B10 vs/B10^(vs.length - 1)<B10:=by
    rw[Nat.div_lt_iff_lt_mul (Nat.pow_pos (by decide)),Nat.mul_comm,<-Nat.pow_succ,show(vs.length - 1).succ=vs.length by omega];exact hhi
   exact this
  have g1':a0c B10 vs/B10^(vs.length - 1)%B10=a0c B10 vs/B10^(vs.length - 1):=Nat.mod_eq_of_lt hv1B;rw[g1']at g1;have hv1:=win.hv1;have hxlt:=win.xlt;have hstart:=win.start;have hUl:=ld_U_lt a0d hV h0 hN hjm hhi;have hinner:=nd_inner g _ h0 hv hN hbig hjm hn2 hlo hg 1000000000;have hXe:ldW B10 (a0c B10 vs) u0 j/B10^vs.length%B10*1000000000+ldW B10 (a0c B10 vs) u0 j/B10^(vs.length - 1)%B10=ldW B10 (a0c B10 vs) u0 j/B10^(vs.length - 1):=by
   have hq:ldW B10 (a0c B10 vs) u0 j/B10^vs.length<B10:=by
    rw[Nat.div_lt_iff_lt_mul (Nat.pow_pos (by decide)),Nat.mul_comm,<-Nat.pow_succ];exact hUl
   rw[Nat.mod_eq_of_lt hq];have e:B10^vs.length=B10^(vs.length - 1)*B10:=by rw[<-Nat.pow_succ];congr 1;omega
   rw[e,<-Nat.div_div_eq_div_mul,Nat.mul_comm];exact Nat.div_add_mod _ _
  have hu1:ldW B10 (a0c B10 vs) u0 j/B10^vs.length%B10<1000000000:=Nat.mod_lt _ (by decide);have hu0:ldW B10 (a0c B10 vs) u0 j/B10^(vs.length - 1)%B10<1000000000:=Nat.mod_lt _ (by decide);generalize hX:ldW B10 (a0c B10 vs) u0 j/B10^(vs.length - 1)=X at*;generalize hv1e:a0c B10 vs/B10^(vs.length - 1)=v1 at*;generalize ldW B10 (a0c B10 vs) u0 j/B10^vs.length%B10=ua at*;generalize X%B10=ub at*;have c0:(j:Int)>=0:=by omega
  have c1:(0:Int)<=(j:Int)+(vs.length:Int):=by omega
  have c2:(j:Int)+(vs.length:Int)<((m+vs.length:Nat):Int):=by omega
  have c3:(0:Int)<=(j:Int)+(vs.length:Int) - 1:=by omega
  have c4:(j:Int)+(vs.length:Int) - 1<((m+vs.length:Nat):Int):=by omega
  have c5:(0:Int)<=(vs.length:Int) - 1:=by omega
  have c6:(vs.length:Int) - 1<(vs.length:Int):=by omega
  have c7:¬((v1:Int)=0):=by omega
  rw[hsl,wr (x:=(vs.length:Int) - 1) (by omega) (by omega),wr (x:=(j:Int)+(vs.length:Int)) (by omega) (by omega),wr (x:=(j:Int)+(vs.length:Int) - 1) (by omega) (by omega)];rw[show((vs.length:Int) - 1).toNat=vs.length - 1 by omega,show 0+((j:Int)+(vs.length:Int)).toNat=j+vs.length by omega,show 0+((j:Int)+(vs.length:Int) - 1).toNat=j+(vs.length - 1) by omega,g1,g3,g4];simp only[c0,c1,c2,c3,c4,c5,c6,c7,decide_true,decide_false,if_true,if_false,Bool.false_eq_true];rw[wr (x:=(ua:Int)*1000000000) (by omega) (by omega),wr (x:=(ua:Int)*1000000000+(ub:Int)) (by omega) (by omega),show(ua:Int)*1000000000+(ub:Int)=(X:Int) by omega,Int.tdiv_eq_ediv_of_nonneg (by omega),Int.tmod_eq_emod_of_nonneg (by omega),<-Int.natCast_ediv,<-Int.natCast_emod];have hX18:X<=1000000000000000000:=by omega
  have hXd:X/v1<=X:=Nat.div_le_self _ _;have hml:=Nat.mod_lt X hv1;have hdm:X/v1*v1+X%v1=X:=by rw[Nat.mul_comm];exact Nat.div_add_mod _ _
  generalize X/v1=qq at*;generalize X%v1=rr at*;rw[wr (x:=(qq:Int)) (by omega) (by omega)];exact hinner qq rr (m+1000000010) hdm hstart (by omega) (by omega) (by omega) (by omega)) (fun g=>by
  unfold P.s_l01NatDiv_b9;dsimp only;rw[if_neg (by simp;omega),Nat.sub_self];have hVN:a0c B10 vs<=B10^u0.length:=Nat.le_trans (Nat.le_of_lt hhi) (Nat.pow_le_pow_right (by decide) (by omega));obtain⟨l1,l2,l3,l4,l5,l6⟩:=ld_last a0d hV h0 (show m<=u0.length by omega) ht hVN;have hul:(nd B10 (a0c B10 u0%a0c B10 vs)).length<=u0.length:=by
   rw[nd_len a0d,<-l1,<-l5];exact dval_lt l3
  unfold S.s_l01Trim S.s_l01ShortDiv;dsimp only;rw[if_pos ⟨l3,by omega⟩,Option.bind_some];dsimp only;rw[l1,if_pos ⟨dig_nd a0d _,by omega,by omega,by omega⟩,Option.bind_some];dsimp only;rw[if_pos ⟨l4,by omega⟩,Option.bind_some,a0i a0d,l2,Int.toNat_natCast]) (by omega)
 rw[Nat.sub_zero,f1,f2]at key;rw[<-key,show(m:Int) - 1 - ((0:Nat):Int)=(m:Int) - 1 by omega]
theorem nd_rest (as bs:List Int) (ca:canon B10 as=true) (cb:canon B10 bs=true) (hne:bs≠ []) (la:as.length<=10000000000) (lb:bs.length<=10000000000) (hb0:a0c B10 bs≠0) (hlow:B10^(bs.length - 1)<=a0c B10 bs)
  (b:(Int×((List Int)×(Int×((List Int)×((List Int)×(Int×Unit))))))->((Int×((List Int)×(Int×((List Int)×((List Int)×(Int×Unit))))))->Option (((List Int)×(List Int))×Unit))->Option (((List Int)×(List Int))×Unit)) (hbb:b=P.s_l01NatDiv_b9 ((as.length+1 - bs.length)+1000000010)):
  (Option.bind (S.a0m (as,(bs,()))) (fun(y4:(Int×Unit))=>(if((decide (y4.1<(0:Int)))=true)then(if((decide ((((0:Nat)+(List.length as))*(8:Nat))<=(140737488355328:Nat)))=true)then(some ((([]:List Int),(([]:List Int)++as)),()))
 else none)
 else(if((((List.length bs):Int)==(1:Int))=true)then(if((decide ((0:Int)<((List.length bs):Int)))=true)then(Option.bind (S.s_l01ShortDiv (as,((List.getD bs (0:Nat) (0:Int)),()))) (fun(y5:(((List Int)×Int)×Unit))=>(Option.bind (S.s_l01Nat (y5.1.2,())) (fun(y6:((List Int)×Unit))=>(some ((y5.1.1,y6.1),()))))))
 else none)
 else(if((decide ((0:Int)<=(IntKind.wrap .i64 (((List.length bs):Int) - (1:Int)))))=true)then(if((decide ((IntKind.wrap .i64 (((List.length bs):Int) - (1:Int)))<((List.length bs):Int)))=true)then(if((decide ((IntKind.wrap .i64 ((List.getD bs (Int.toNat (IntKind.wrap .i64 (((List.length bs):Int) - (1:Int)))) (0:Int))+(1:Int)))=(0:Int)))=true)then none
 else(if((decide ((0:Int)<=(IntKind.wrap .i64 (((List.length as):Int)+(1:Int)))))=true)then(if((decide ((IntKind.wrap .i64 (((List.length as):Int)+(1:Int)))<=(IntKind.wrap .i64 (((List.length as):Int)+(1:Int)))))=true)then(if((decide (((IntKind.wrap .i64 (((List.length as):Int)+(1:Int)))*(8:Int))<=(281474976710656:Int)))=true)then(Option.bind (S.s_l01ShortMul (as,((IntKind.wrap .i64 (Int.tdiv (1000000000:Int) (IntKind.wrap .i64 ((List.getD bs (Int.toNat (IntKind.wrap .i64 (((List.length bs):Int) - (1:Int)))) (0:Int))+(1:Int))))),()))) (fun(y7:((List Int)×Unit))=>(Option.bind (S.s_l01ShortMul (bs,((IntKind.wrap .i64 (Int.tdiv (1000000000:Int) (IntKind.wrap .i64 ((List.getD bs (Int.toNat (IntKind.wrap .i64 (((List.length bs):Int) - (1:Int)))) (0:Int))+(1:Int))))),()))) (fun(y8:((List Int)×Unit))=>(if((decide ((0:Int)<=(IntKind.wrap .i64 (((List.length (Go.Cm.splice (List.replicate (Int.toNat (IntKind.wrap .i64 (((List.length as):Int)+(1:Int)))) (0:Int)) (List.take (List.length (List.replicate (Int.toNat (IntKind.wrap .i64 (((List.length as):Int)+(1:Int)))) (0:Int))) y7.1) (0:Nat))):Int) - ((List.length y8.1):Int)))))=true)then(if((decide ((IntKind.wrap .i64 (((List.length (Go.Cm.splice (List.replicate (Int.toNat (IntKind.wrap .i64 (((List.length as):Int)+(1:Int)))) (0:Int)) (List.take (List.length (List.replicate (Int.toNat (IntKind.wrap .i64 (((List.length as):Int)+(1:Int)))) (0:Int))) y7.1) (0:Nat))):Int) - ((List.length y8.1):Int)))<=(IntKind.wrap .i64 (((List.length (Go.Cm.splice (List.replicate (Int.toNat (IntKind.wrap .i64 (((List.length as):Int)+(1:Int)))) (0:Int)) (List.take (List.length (List.replicate (Int.toNat (IntKind.wrap .i64 (((List.length as):Int)+(1:Int)))) (0:Int))) y7.1) (0:Nat))):Int) - ((List.length y8.1):Int)))))=true)then(if((decide (((IntKind.wrap .i64 (((List.length (Go.Cm.splice (List.replicate (Int.toNat (IntKind.wrap .i64 (((List.length as):Int)+(1:Int)))) (0:Int)) (List.take (List.length (List.replicate (Int.toNat (IntKind.wrap .i64 (((List.length as):Int)+(1:Int)))) (0:Int))) y7.1) (0:Nat))):Int) - ((List.length y8.1):Int)))*(8:Int))<=(281474976710656:Int)))=true)then(Go.Cm.loopP (X:=(Int×((List Int)×(Int×((List Int)×((List Int)×(Int×Unit))))))) (R:=(((List Int)×(List Int))×Unit)) b ((as.length+1 - bs.length)+1000000010) ((IntKind.wrap .i64 ((IntKind.wrap .i64 (((List.length (Go.Cm.splice (List.replicate (Int.toNat (IntKind.wrap .i64 (((List.length as):Int)+(1:Int)))) (0:Int)) (List.take (List.length (List.replicate (Int.toNat (IntKind.wrap .i64 (((List.length as):Int)+(1:Int)))) (0:Int))) y7.1) (0:Nat))):Int) - ((List.length y8.1):Int))) - (1:Int))),((Go.Cm.splice (List.replicate (Int.toNat (IntKind.wrap .i64 (((List.length as):Int)+(1:Int)))) (0:Int)) (List.take (List.length (List.replicate (Int.toNat (IntKind.wrap .i64 (((List.length as):Int)+(1:Int)))) (0:Int))) y7.1) (0:Nat)),(((List.length y8.1):Int),(y8.1,((List.replicate (Int.toNat (IntKind.wrap .i64 (((List.length (Go.Cm.splice (List.replicate (Int.toNat (IntKind.wrap .i64 (((List.length as):Int)+(1:Int)))) (0:Int)) (List.take (List.length (List.replicate (Int.toNat (IntKind.wrap .i64 (((List.length as):Int)+(1:Int)))) (0:Int))) y7.1) (0:Nat))):Int) - ((List.length y8.1):Int)))) (0:Int)),((IntKind.wrap .i64 (Int.tdiv (1000000000:Int) (IntKind.wrap .i64 ((List.getD bs (Int.toNat (IntKind.wrap .i64 (((List.length bs):Int) - (1:Int)))) (0:Int))+(1:Int))))),())))))))
 else none)
 else none)
 else none)))))
 else none)
 else none)
 else none))
 else none)
 else none)))))=some ((nd B10 (a0c B10 as/a0c B10 bs),nd B10 (a0c B10 as%a0c B10 bs)),()):=by
 subst hbb;have da:=canon_dig ca;have db:=canon_dig cb;have hbpos:0<bs.length:=List.length_pos_iff.2 hne;have hhib:=dval_lt db;have hhia:=dval_lt da;have sc:S.a0m (as,(bs,()))=some (cmpN (a0c B10 as) (a0c B10 bs),()):=by
  unfold S.a0m;exact if_pos ⟨ca,cb,by dsimp only;omega⟩
 rw[sc,Option.bind_some];dsimp only
 by_cases hlt:a0c B10 as<a0c B10 bs
 ·have q1:(0+as.length)*8<=140737488355328:=by omega
  rw[if_pos (decide_eq_true (cmpN_lt.2 hlt)),if_pos (decide_eq_true q1),Nat.div_eq_of_lt hlt,Nat.mod_eq_of_lt hlt,nd_zero a0d,canon_eq ca,List.nil_append]
 ·rw[if_neg (by simpa [cmpN_lt]using hlt)]
  by_cases h1:bs.length=1
  ·obtain⟨b0,rfl⟩:∃b0,bs=[b0]:=by
    match bs,h1 with
    | [b0],_=>exact⟨b0,rfl⟩
   rw[if_pos (by rfl),if_pos (by rfl)];have hb:a0c B10 [b0]=b0.toNat:=by simp [a0c]
   have hbd:=(dig_cons _ _).1 db;have hbd1:b0<1000000000:=hbd.1.2;rw[hb]at hb0 ⊢;show Option.bind (S.s_l01ShortDiv (as,(b0,()))) _=_;unfold S.s_l01ShortDiv S.s_l01Nat;dsimp only;have hm:=Nat.mod_lt (a0c B10 as) (show 0<b0.toNat by omega);rw[if_pos ⟨da,by omega,by omega,by omega⟩,Option.bind_some];dsimp only;rw[if_pos ⟨by omega,by omega⟩,Option.bind_some,Int.toNat_natCast]
  ·rw[if_neg (by simp;omega)];have hn2:2<=bs.length:=by omega
   have c1:(0:Int)<=(bs.length:Int) - 1:=by omega
   have c2:(bs.length:Int) - 1<(bs.length:Int):=by omega
   have c3:(0:Int)<=(as.length:Int)+1:=by omega
   have c4:((as.length:Int)+1)*8<=281474976710656:=by omega
   have hbtB:a0c B10 bs/B10^(bs.length - 1)<1000000000:=by
    have:a0c B10 bs/B10^(bs.length - 1)<B10:=by
     rw[Nat.div_lt_iff_lt_mul (Nat.pow_pos (by decide)),Nat.mul_comm,<-Nat.pow_succ,show(bs.length - 1).succ=bs.length by omega];exact hhib
    exact this
   have hbt0:0<a0c B10 bs/B10^(bs.length - 1):=Nat.div_pos hlow (Nat.pow_pos (by decide));have g1:=dig_low a0d db (i:=bs.length - 1) (by omega);rw[show a0c B10 bs/B10^(bs.length - 1)%B10=a0c B10 bs/B10^(bs.length - 1)from Nat.mod_eq_of_lt hbtB]at g1;have hbt1:a0c B10 bs<(a0c B10 bs/B10^(bs.length - 1)+1)*B10^(bs.length - 1):=by
    have:=Nat.lt_div_mul_add (show 0<B10^(bs.length - 1)from Nat.pow_pos (by decide)) (a:=a0c B10 bs);rw[Nat.add_mul,Nat.one_mul];exact this
   generalize hbt:a0c B10 bs/B10^(bs.length - 1)=bt at*;have c5:¬((bt:Int)+1=0):=by omega
   rw[wr (x:=(bs.length:Int) - 1) (by omega) (by omega),wr (x:=(as.length:Int)+1) (by omega) (by omega),show((bs.length:Int) - 1).toNat=bs.length - 1 by omega,g1,wr (x:=(bt:Int)+1) (by omega) (by omega)];simp only[c1,c2,c3,c4,c5,decide_true,decide_false,if_true,if_false,Bool.false_eq_true,Int.le_refl];rw[Int.tdiv_eq_ediv_of_nonneg (by omega),show(1000000000:Int)/((bt:Int)+1)=((1000000000/(bt+1):Nat):Int) by rw[Int.natCast_ediv];rfl];have hd0:0<1000000000/(bt+1):=Nat.div_pos (by omega) (by omega);have hd1:1000000000/(bt+1)<=1000000000:=Nat.div_le_self _ _;have hd2:(bt+1)*(1000000000/(bt+1))<=B10:=Nat.mul_div_le _ _;generalize 1000000000/(bt+1)=d at*;rw[wr (x:=(d:Int)) (by omega) (by omega)];have m1:S.s_l01ShortMul (as,((d:Int),()))=some (nd B10 (a0c B10 as*d),()):=by
    unfold S.s_l01ShortMul;exact if_pos ⟨ca,by dsimp only;omega,by dsimp only;omega,by dsimp only;omega⟩
   have m2:S.s_l01ShortMul (bs,((d:Int),()))=some (nd B10 (a0c B10 bs*d),()):=by
    unfold S.s_l01ShortMul;exact if_pos ⟨cb,by dsimp only;omega,by dsimp only;omega,by dsimp only;omega⟩
   rw[m1,Option.bind_some,m2,Option.bind_some];dsimp only;have hvhi:a0c B10 bs*d<B10^bs.length:=by
    have h3:a0c B10 bs*d<(bt+1)*B10^(bs.length - 1)*d:=Nat.mul_lt_mul_of_pos_right hbt1 hd0;have h4:(bt+1)*B10^(bs.length - 1)*d=(bt+1)*d*B10^(bs.length - 1):=by ac_rfl
    have h5:(bt+1)*d*B10^(bs.length - 1)<=B10*B10^(bs.length - 1):=Nat.mul_le_mul_right _ hd2;have h6:B10*B10^(bs.length - 1)=B10^bs.length:=by rw[Nat.mul_comm,<-Nat.pow_succ];congr 1;omega
    omega
   have hvlo:B10^(bs.length - 1)<=a0c B10 bs*d:=Nat.le_trans hlow (Nat.le_mul_of_pos_right _ hd0);have hvl:(nd B10 (a0c B10 bs*d)).length=bs.length:=by
    have h3:=(nd_len a0d (a0c B10 bs*d) bs.length).2 hvhi;have h4:=nd_len a0d (a0c B10 bs*d) (bs.length - 1);have h5:¬(nd B10 (a0c B10 bs*d)).length<=bs.length - 1:=by
     rw[h4];omega
    omega
   have hal:(nd B10 (a0c B10 as*d)).length<=as.length+1:=by
    rw[nd_len a0d,Nat.pow_succ];exact Nat.lt_of_lt_of_le (Nat.mul_lt_mul_of_pos_right hhia hd0) (Nat.mul_le_mul_left _ hd1)
   have hab:bs.length<=as.length:=by
    rcases Nat.lt_or_ge as.length bs.length with g|g
    ·have:=canon_small a0d ca cb g;omega
    ·exact g
   have hdv:a0c B10 (nd B10 (a0c B10 as*d))=a0c B10 as*d:=a0i a0d _;have hdw:a0c B10 (nd B10 (a0c B10 bs*d))=a0c B10 bs*d:=a0i a0d _;have hdu:=dig_nd a0d (a0c B10 as*d);have hdv':=dig_nd a0d (a0c B10 bs*d);generalize nd B10 (a0c B10 as*d)=ys at*;generalize nd B10 (a0c B10 bs*d)=vs at*;have hsp:Go.Cm.splice (List.replicate ((as.length:Int)+1).toNat (0:Int)) (List.take (List.length (List.replicate ((as.length:Int)+1).toNat (0:Int))) ys) 0=ys++List.replicate (as.length+1 - ys.length) 0:=by
    rw[List.length_replicate,show((as.length:Int)+1).toNat=as.length+1 by omega,List.take_of_length_le hal];unfold splice;rw[List.take_zero,List.nil_append,Nat.zero_add,List.drop_replicate]
   rw[hsp];have hu0:a0c B10 (ys++List.replicate (as.length+1 - ys.length) 0)=a0c B10 as*d:=by rw[dval_zeros,hdv]
   have hul:(ys++List.replicate (as.length+1 - ys.length) 0).length=(as.length+1 - bs.length)+vs.length:=by
    rw[List.length_append,List.length_replicate];omega
   have hud:dig B10 (ys++List.replicate (as.length+1 - ys.length) 0)=true:=by
    rw[dig_append,hdu,Bool.true_and];unfold dig;rw[List.all_eq_true];intro x hx;rw[List.eq_of_mem_replicate hx];decide
   generalize ys++List.replicate (as.length+1 - ys.length) 0=u0 at*;have ht:a0c B10 (u0.drop (as.length+1 - bs.length))<a0c B10 bs*d:=ld_top (n:=vs.length) a0d hud hu0 hd0 hul (by rw[show as.length+1 - bs.length+vs.length - 1=as.length by omega];exact hhia) (by omega) (by rw[hvl];exact hlow);have hmain:=nd_outer (m:=as.length+1 - bs.length) (d:=d) hud hdv' hul (by omega) (by omega) (by rw[hvl,hdw];exact hvlo) hd0 hd1 (by rw[hdw];exact ht);have e9:((u0.length:Int) - (vs.length:Int))=((as.length+1 - bs.length:Nat):Int):=by omega
   have c6:(0:Int)<=((as.length+1 - bs.length:Nat):Int):=by omega
   have c7:((as.length+1 - bs.length:Nat):Int)*8<=281474976710656:=by omega
   rw[e9,wr (x:=((as.length+1 - bs.length:Nat):Int)) (by omega) (by omega),wr (x:=((as.length+1 - bs.length:Nat):Int) - 1) (by omega) (by omega)];simp only[c6,c7,decide_true,if_true,Int.toNat_natCast];rw[hmain,hu0,hdw,Nat.mul_div_mul_right _ _ hd0,Nat.mul_mod_mul_right,Nat.mul_div_cancel _ hd0]
def S.s_l01NatDiv (x:((List Int)×((List Int)×Unit))):(Option (((List Int)×(List Int))×Unit)):=if canon B10 x.1=true/\canon B10 x.2.1=true/\x.2.1≠ []/\x.1.length<=10000000000/\x.2.1.length<=10000000000 then some ((nd B10 (a0c B10 x.1/a0c B10 x.2.1),nd B10 (a0c B10 x.1%a0c B10 x.2.1)),())else none
theorem S.s_l01NatDiv_ok (x r) (h:S.s_l01NatDiv x=some r):∃k,P.s_l01NatDiv k x=some r:=by
 obtain⟨as,bs,u⟩:=x;unfold S.s_l01NatDiv at h;dsimp only at h;split at h
 case isFalse=>cases h
 rename_i hc;obtain⟨ca,cb,hne,la,lb⟩:=hc;cases h;have da:=canon_dig ca;have db:=canon_dig cb;have hbpos:0<bs.length:=List.length_pos_iff.2 hne;have hb0:a0c B10 bs≠0:=by
  intro q;have:=canon_eq cb;rw[q,nd_zero a0d]at this;exact hne this.symm
 have hlow:=nd_low a0d hb0;rw[canon_eq cb]at hlow;have hhib:=dval_lt db;have hhia:=dval_lt da;have sa:S.s_l01Small (as,())=some ((if as.length<=2 then((a0c B10 as:Nat):Int)else 0,decide (as.length<=2)),()):=by
  unfold S.s_l01Small;exact if_pos ⟨da,by dsimp only;omega⟩
 have sb:S.s_l01Small (bs,())=some ((if bs.length<=2 then((a0c B10 bs:Nat):Int)else 0,decide (bs.length<=2)),()):=by
  unfold S.s_l01Small;exact if_pos ⟨db,by dsimp only;omega⟩
 have sc:S.a0m (as,(bs,()))=some (cmpN (a0c B10 as) (a0c B10 bs),()):=by
  unfold S.a0m;exact if_pos ⟨ca,cb,by dsimp only;omega⟩
 refine⟨(as.length+1 - bs.length)+1000000010,?_⟩;unfold P.s_l01NatDiv;dsimp only;rw[sa,Option.bind_some,sb,Option.bind_some];dsimp only;have hsmall:∀xs:List Int,dig B10 xs=true->xs.length<=2->a0c B10 xs<1000000000000000000:=by
  intro xs hd hl;have h1:=dval_lt hd;have h2:B10^xs.length<=B10^2:=Nat.pow_le_pow_right (by decide) hl;have h3:B10^2=1000000000000000000:=rfl;omega
 by_cases c1:as.length<=2
 ·by_cases c2:bs.length<=2
  ·have s1:=hsmall as da c1;have s2:=hsmall bs db c2;have hz:¬(((a0c B10 bs:Nat):Int)=0):=by omega
   simp only[c1,c2,hz,decide_true,decide_false,if_true,if_false,Bool.false_eq_true];rw[Int.tdiv_eq_ediv_of_nonneg (by omega),Int.tmod_eq_emod_of_nonneg (by omega),<-Int.natCast_ediv,<-Int.natCast_emod];have hq:=Nat.div_le_self (a0c B10 as) (a0c B10 bs);have hm:=Nat.mod_le (a0c B10 as) (a0c B10 bs);generalize a0c B10 as/a0c B10 bs=Q at*;generalize a0c B10 as%a0c B10 bs=M at*;rw[wr (by omega) (by omega)];unfold S.s_l01Nat;dsimp only;rw[if_pos ⟨by omega,by omega⟩,Option.bind_some,if_pos ⟨by omega,by omega⟩,Option.bind_some,Int.toNat_natCast,Int.toNat_natCast]
  ·rw[if_pos (decide_eq_true c1),if_neg (by simpa using c2)];exact nd_rest as bs ca cb hne la lb hb0 hlow _ rfl
 ·rw[if_neg (by simpa using c1)];exact nd_rest as bs ca cb hne la lb hb0 hlow _ rfl
abbrev P.s_l01Gcd_b0 (x1:List Int×List Int×Unit) (g2:List Int×List Int×Unit->Option (List Int×Unit)):Option (List Int×Unit):=
 if decide ((x1.1.length:Int)>(0:Int))then(S.s_l01NatDiv (x1.2.1,x1.1,())).bind fun y3=>g2 (y3.1.2,x1.1,())else some (x1.2.1,())
def P.s_l01Gcd (k:Nat) (x:List Int×List Int×Unit):Option (List Int×Unit):=
 loopP P.s_l01Gcd_b0 k (x.2.1,x.1,())
theorem canon_pos {B:Nat} (hB:2<=B) {xs:List Int} (h:canon B xs=true) (hn:xs≠ []):a0c B xs≠0:=by
 intro q;have:=canon_eq h;rw[q,nd_zero hB]at this;exact hn this.symm
theorem nd_shorter {B:Nat} (hB:2<=B) {m n:Nat} (h:m<=n):(nd B m).length<=(nd B n).length:=by
 rw[nd_len hB];exact Nat.lt_of_le_of_lt h ((nd_len hB n _).1 (Nat.le_refl _))
theorem sg_loop (n:Nat):∀(as bs:List Int) (k:Nat),canon B10 as=true->canon B10 bs=true->as.length<=10000000000->bs.length<=10000000000->a0c B10 bs<=n->n<k->loopP P.s_l01Gcd_b0 k (bs,(as,()))=some (nd B10 (Nat.gcd (a0c B10 as) (a0c B10 bs)),()):=by
 induction n using Nat.strongRecOn with
 |ind n ih=>
  intro as bs k ca cb la lb hn hk;obtain⟨k,rfl⟩:∃j,k=j+1:=⟨k - 1,by omega⟩
  rw[a0k];unfold P.s_l01Gcd_b0;dsimp only
  by_cases hb:bs=[]
  ·subst hb;rw[if_neg (by simp),show a0c B10 []=0 from rfl,Nat.gcd_zero_right,canon_eq ca]
  ·have hpos:0<bs.length:=List.length_pos_iff.2 hb;have hb0:=canon_pos a0d cb hb;have hm:=Nat.mod_lt (a0c B10 as) (show 0<a0c B10 bs by omega);have hc:(bs.length:Int)>0:=by omega
   rw[if_pos (decide_eq_true hc)];show Option.bind (S.s_l01NatDiv (as,(bs,()))) (fun y3=>loopP P.s_l01Gcd_b0 k (y3.1.2,(bs,())))=_;unfold S.s_l01NatDiv;dsimp only;rw[if_pos ⟨ca,cb,hb,la,lb⟩,Option.bind_some];dsimp only;have hl:(nd B10 (a0c B10 as%a0c B10 bs)).length<=bs.length:=by
    have:=nd_shorter a0d (Nat.le_of_lt hm);rwa [canon_eq cb]at this
   have hd:a0c B10 (nd B10 (a0c B10 as%a0c B10 bs))=a0c B10 as%a0c B10 bs:=a0i a0d _;rw[ih (a0c B10 as%a0c B10 bs) (by omega) bs (nd B10 (a0c B10 as%a0c B10 bs)) k cb (a0j a0d _) lb (by omega) (by rw[hd];exact Nat.le_refl _) (by omega),hd,gcd_step]
def S.s_l01Gcd (x:((List Int)×((List Int)×Unit))):(Option ((List Int)×Unit)):=if canon B10 x.1=true/\canon B10 x.2.1=true/\x.1.length<=10000000000/\x.2.1.length<=10000000000 then some (nd B10 (Nat.gcd (a0c B10 x.1) (a0c B10 x.2.1)),())else none
theorem S.s_l01Gcd_ok (x r) (h:S.s_l01Gcd x=some r):∃k,P.s_l01Gcd k x=some r:=by
 obtain⟨as,bs,u⟩:=x;unfold S.s_l01Gcd at h;dsimp only at h;split at h
 case isFalse=>cases h
 rename_i hc;obtain⟨ca,cb,la,lb⟩:=hc;cases h;refine⟨a0c B10 bs+1,?_⟩;unfold P.s_l01Gcd;exact sg_loop (a0c B10 bs) as bs _ ca cb la lb (Nat.le_refl _) (by omega)
def P.s_l01Make (k:Nat) (x:Bool×List Int×List Int×Unit):Option (RB×Unit):=
 (S.s_l01Gcd (x.2.1,x.2.2.1,())).bind fun y0=>(S.a0m (y0.1,[(1:Int)],())).bind fun y1=>if y1.1 != (0:Int)then(S.s_l01NatDiv (x.2.1,y0.1,())).bind fun y2=>(S.s_l01NatDiv (x.2.2.1,y0.1,())).bind fun y3=>if x.1 then some ((decide ((y2.1.1.length:Int)>(0:Int)),y2.1.1,y3.1.1),())else some ((false,y2.1.1,y3.1.1),())else if x.1 then some ((decide ((x.2.1.length:Int)>(0:Int)),x.2.1,x.2.2.1),())else some ((false,x.2.1,x.2.2.1),())
def S.s_l01Make (x:(Bool×((List Int)×((List Int)×Unit)))):(Option (RB×Unit)):=if canon B10 x.2.1=true/\canon B10 x.2.2.1=true/\x.2.2.1≠ []/\x.2.1.length<=10000000000/\x.2.2.1.length<=10000000000 then some (rp B10 (lowN x.1 (a0c B10 x.2.1) (a0c B10 x.2.2.1)),())else none
theorem S.s_l01Make_ok (x r) (h:S.s_l01Make x=some r):∃k,P.s_l01Make k x=some r:=by
 obtain⟨neg,as,bs',u⟩:=x;unfold S.s_l01Make at h;dsimp only at h;split at h
 case isFalse=>cases h
 rename_i hc;obtain⟨ca,cb,hne,la,lb⟩:=hc;cases h;refine⟨0,?_⟩;unfold P.s_l01Make;dsimp only;have hb0:a0c B10 bs'≠0:=fun e=>hne ((canon_nil a0d cb).2 e)
 have hg:=gcd_len a0d ca cb hb0;have hgp:0<Nat.gcd (a0c B10 as) (a0c B10 bs'):=Nat.gcd_pos_of_pos_right _ (by omega);have e1:S.s_l01Gcd (as,(bs',()))=some (nd B10 (Nat.gcd (a0c B10 as) (a0c B10 bs')),()):=by
  unfold S.s_l01Gcd;exact if_pos ⟨ca,cb,la,lb⟩
 rw[e1,Option.bind_some];dsimp only;unfold lowN rp;dsimp only;have hgne:nd B10 (Nat.gcd (a0c B10 as) (a0c B10 bs'))≠ []:=by
  rw[nd_pos a0d (by omega)];simp
 have hgd:a0c B10 (nd B10 (Nat.gcd (a0c B10 as) (a0c B10 bs')))=Nat.gcd (a0c B10 as) (a0c B10 bs'):=a0i a0d _;have hgc:canon B10 (nd B10 (Nat.gcd (a0c B10 as) (a0c B10 bs')))=true:=a0j a0d _;have e2:∀xs,canon B10 xs=true->xs.length<=10000000000->S.s_l01NatDiv (xs,(nd B10 (Nat.gcd (a0c B10 as) (a0c B10 bs')),()))=some ((nd B10 (a0c B10 xs/Nat.gcd (a0c B10 as) (a0c B10 bs')),nd B10 (a0c B10 xs%Nat.gcd (a0c B10 as) (a0c B10 bs'))),()):=by
  intro xs cx lx;unfold S.s_l01NatDiv;dsimp only;rw[if_pos ⟨cx,hgc,hgne,lx,by omega⟩,hgd]
 have e3:S.a0m (nd B10 (Nat.gcd (a0c B10 as) (a0c B10 bs')),([1],()))=some (cmpN (Nat.gcd (a0c B10 as) (a0c B10 bs')) 1,()):=by
  unfold S.a0m;dsimp only;rw[if_pos ⟨hgc,canon_one a0d,by omega⟩,hgd,dval_one]
 rw[e3,Option.bind_some,e2 as ca la,Option.bind_some,e2 bs' cb lb,Option.bind_some];dsimp only;have hpos:∀xs:List Int,canon B10 xs=true->(decide (((xs.length:Nat):Int)>0))=decide (a0c B10 xs≠0):=by
  intro xs cx;have:=canon_nil a0d cx;rw[decide_eq_decide];constructor
  ·intro h e;rw[this.2 e]at h;simp at h
  ·intro h;have:0<xs.length:=List.length_pos_iff.2 (fun e=>h (this.1 e));omega
 have hp2:decide (a0c B10 as/Nat.gcd (a0c B10 as) (a0c B10 bs')≠0)=decide (a0c B10 as≠0):=by
  rw[decide_eq_decide];have hdv:Nat.gcd (a0c B10 as) (a0c B10 bs') ∣ a0c B10 as:=Nat.gcd_dvd_left _ _;constructor
  ·intro h e;rw[e,Nat.zero_div]at h;exact h rfl
  ·intro h e;have:=Nat.div_pos (Nat.le_of_dvd (by omega) hdv) hgp;omega
 rw[hpos _ (a0j a0d _),hpos as ca,a0i a0d,hp2]
 by_cases h1:Nat.gcd (a0c B10 as) (a0c B10 bs')=1
 ·rw[if_neg (by simpa using cmpN_zero.2 h1),h1,Nat.div_one,Nat.div_one,canon_eq ca,canon_eq cb];cases neg<;>simp
 ·rw[if_pos (by simpa using fun q=>h1 (cmpN_zero.1 q))];cases neg<;>simp
def P.s_l01Sum (k:Nat) (x:RB×RB×Unit):Option (RB×Unit):=
 (S.s_l01NatMul (x.1.2.1,x.2.1.2.2,())).bind fun y0=>(S.s_l01NatMul (x.2.1.2.1,x.1.2.2,())).bind fun y1=>(S.s_l01NatMul (x.1.2.2,x.2.1.2.2,())).bind fun y2=>if x.1.1==x.2.1.1 then(S.s_l01NatAdd (y0.1,y1.1,())).bind fun y3=>(S.s_l01Make (x.1.1,y3.1,y2.1,())).bind fun y4=>some ((y4.1.1,y4.1.2.1,y4.1.2.2),())else(S.a0m (y0.1,y1.1,())).bind fun y5=>if decide (y5.1>=0)then(S.s_l01NatLess (y0.1,y1.1,())).bind fun y6=>(S.s_l01Make (x.1.1,y6.1,y2.1,())).bind fun y7=>some ((y7.1.1,y7.1.2.1,y7.1.2.2),())else(S.s_l01NatLess (y1.1,y0.1,())).bind fun y8=>(S.s_l01Make (x.2.1.1,y8.1,y2.1,())).bind fun y9=>some ((y9.1.1,y9.1.2.1,y9.1.2.2),())
theorem sa_mul (p q:Nat) (hp:(nd B10 p).length<=100000000) (hq:(nd B10 q).length<=100000000):S.s_l01NatMul (nd B10 p,(nd B10 q,()))=some (nd B10 (p*q),()):=by
 unfold S.s_l01NatMul;dsimp only;rw[if_pos ⟨dig_nd a0d _,dig_nd a0d _,by omega,by omega⟩,a0i a0d,a0i a0d]
theorem sa_add (p q:Nat) (hp:(nd B10 p).length<=100000000) (hq:(nd B10 q).length<=100000000):S.s_l01NatAdd (nd B10 p,(nd B10 q,()))=some (nd B10 (p+q),()):=by
 unfold S.s_l01NatAdd;dsimp only;rw[if_pos ⟨a0j a0d _,a0j a0d _,by omega,by omega⟩,a0i a0d,a0i a0d]
theorem sa_sub (p q:Nat) (hp:(nd B10 p).length<=100000000) (h:q<=p):S.s_l01NatLess (nd B10 p,(nd B10 q,()))=some (nd B10 (p - q),()):=by
 unfold S.s_l01NatLess;dsimp only;rw[a0i a0d,a0i a0d,if_pos ⟨dig_nd a0d _,dig_nd a0d _,nd_shorter' a0d h,h,by omega⟩]
theorem sa_cmp (p q:Nat) (hp:(nd B10 p).length<=100000000):S.a0m (nd B10 p,(nd B10 q,()))=some (cmpN p q,()):=by
 unfold S.a0m;dsimp only;rw[if_pos ⟨a0j a0d _,a0j a0d _,by omega⟩,a0i a0d,a0i a0d]
theorem sa_low (n:Bool) (p q:Nat) (hp:(nd B10 p).length<=100000000) (hq:(nd B10 q).length<=100000000) (h0:q≠0):S.s_l01Make (n,(nd B10 p,(nd B10 q,())))=some (rp B10 (lowN n p q),()):=by
 unfold S.s_l01Make;dsimp only;rw[if_pos ⟨a0j a0d _,a0j a0d _,nd_ne a0d h0,by omega,by omega⟩,a0i a0d,a0i a0d]
def S.s_l01Sum (x:(RB×(RB×Unit))):(Option (RB×Unit)):=if lowb B10 40000000 x.1=true/\lowb B10 40000000 x.2.1=true then some (rp B10 (addQ (rv B10 x.1) (rv B10 x.2.1)),())else none
theorem S.s_l01Sum_ok (x r) (h:S.s_l01Sum x=some r):∃k,P.s_l01Sum k x=some r:=by
 obtain⟨x,y,u⟩:=x;unfold S.s_l01Sum at h;dsimp only at h;split at h
 case isFalse=>cases h
 rename_i hc;obtain⟨hx,hy⟩:=hc;cases h;rw[lowb_iff]at hx hy;obtain⟨hx,lx⟩:=hx;obtain⟨hy,ly⟩:=hy;obtain⟨n1,p1,q1,rfl,x1,x2⟩:=rok_nd hx;obtain⟨n2,p2,q2,rfl,y1,y2⟩:=rok_nd hy;rw[rv_nd a0d]at lx ly ⊢;rw[rv_nd a0d];have hq1:q1≠0:=by have:0<q1:=lx.1;omega
 have hq2:q2≠0:=by have:0<q2:=ly.1;omega
 have m1:=nd_mul_len a0d p1 q2;have m2:=nd_mul_len a0d p2 q1;have m3:=nd_mul_len a0d q1 q2;have hq0:q1*q2≠0:=Nat.mul_ne_zero hq1 hq2;refine⟨0,?_⟩;unfold P.s_l01Sum;dsimp only;rw[sa_mul p1 q2 (by omega) (by omega),Option.bind_some,sa_mul p2 q1 (by omega) (by omega),Option.bind_some,sa_mul q1 q2 (by omega) (by omega),Option.bind_some];dsimp only;unfold addQ;dsimp only;have a1:=nd_add_len a0d (p1*q2) (p2*q1);have a2:=nd_sub_len a0d (p1*q2) (p2*q1);have a3:=nd_sub_len a0d (p2*q1) (p1*q2)
 by_cases hn:n1=n2
 ·rw[if_pos (by simpa using hn),if_pos hn,sa_add _ _ (by omega) (by omega),Option.bind_some,sa_low n1 _ _ (by omega) (by omega) hq0,Option.bind_some]
 ·rw[if_neg (by simpa using hn),if_neg hn,sa_cmp _ _ (by omega),Option.bind_some];dsimp only;have hlt:=cmpN_lt (a:=p1*q2) (b:=p2*q1)
  by_cases hle:p2*q1<=p1*q2
  ·have hge:cmpN (p1*q2) (p2*q1)>=0:=by
    rcases Int.lt_or_le (cmpN (p1*q2) (p2*q1)) 0 with g|g
    ·have:=hlt.1 g;omega
    ·exact g
   rw[if_pos (decide_eq_true hge),if_pos hle,sa_sub _ _ (by omega) hle,Option.bind_some,sa_low n1 _ _ (by omega) (by omega) hq0,Option.bind_some]
  ·have hge:¬cmpN (p1*q2) (p2*q1)>=0:=by
    have:=hlt.2 (Nat.lt_of_not_le hle);omega
   rw[if_neg (by simpa using hge),if_neg hle,sa_sub _ _ (by omega) (Nat.le_of_lt (Nat.lt_of_not_le hle)),Option.bind_some,sa_low n2 _ _ (by omega) (by omega) hq0,Option.bind_some]
theorem rs_add {x y:Q3} {m n:Nat} (hx:low x) (bx:below m x) (hy:low y) (bY:below n y) (hm:m<=350000000) (hn:n<=350000000):S.s_l01Sum (rp B10 x,(rp B10 y,()))=some (rp B10 (addQ x y),()):=by
 unfold S.s_l01Sum;dsimp only;rw[if_pos ⟨lowb_rp9 (by decide) hx bx (by omega),lowb_rp9 (by decide) hy bY (by omega)⟩,rv_rp a0d,rv_rp a0d]
def P.s_l01Times (k:Nat) (x:RB×RB×Unit):Option (RB×Unit):=
 (S.s_l01NatMul (x.1.2.1,x.2.1.2.1,())).bind fun y0=>(S.s_l01NatMul (x.1.2.2,x.2.1.2.2,())).bind fun y1=>(S.s_l01Make (! (x.1.1==x.2.1.1),y0.1,y1.1,())).bind fun y2=>some ((y2.1.1,y2.1.2.1,y2.1.2.2),())
def S.s_l01Times (x:(RB×(RB×Unit))):(Option (RB×Unit)):=if lowb B10 40000000 x.1=true/\lowb B10 40000000 x.2.1=true then some (rp B10 (mulQ (rv B10 x.1) (rv B10 x.2.1)),())else none
theorem S.s_l01Times_ok (x r) (h:S.s_l01Times x=some r):∃k,P.s_l01Times k x=some r:=by
 obtain⟨x,y,u⟩:=x;unfold S.s_l01Times at h;dsimp only at h;split at h
 case isFalse=>cases h
 rename_i hc;obtain⟨hx,hy⟩:=hc;cases h;rw[lowb_iff]at hx hy;obtain⟨hx,lx⟩:=hx;obtain⟨hy,ly⟩:=hy;obtain⟨n1,p1,q1,rfl,x1,x2⟩:=rok_nd hx;obtain⟨n2,p2,q2,rfl,y1,y2⟩:=rok_nd hy;rw[rv_nd a0d]at lx ly ⊢;rw[rv_nd a0d];have hq1:0<q1:=lx.1;have hq2:0<q2:=ly.1;have m1:=nd_mul_len a0d p1 p2;have m2:=nd_mul_len a0d q1 q2;have mul:∀p q:Nat,(nd B10 p).length<=100000000->(nd B10 q).length<=100000000->S.s_l01NatMul (nd B10 p,(nd B10 q,()))=some (nd B10 (p*q),()):=by
  intro p q hp hq;unfold S.s_l01NatMul;dsimp only;rw[if_pos ⟨dig_nd a0d _,dig_nd a0d _,by omega,by omega⟩,a0i a0d,a0i a0d]
 refine⟨0,?_⟩;unfold P.s_l01Times mulQ;dsimp only;rw[mul p1 p2 (by omega) (by omega),Option.bind_some,mul q1 q2 (by omega) (by omega),Option.bind_some];unfold S.s_l01Make;dsimp only;rw[if_pos ⟨a0j a0d _,a0j a0d _,nd_ne a0d (Nat.ne_of_gt (Nat.mul_pos hq1 hq2)),by omega,by omega⟩,Option.bind_some,a0i a0d,a0i a0d];rfl
theorem rs_mul {x y:Q3} {m n:Nat} (hx:low x) (bx:below m x) (hy:low y) (bY:below n y) (hm:m<=350000000) (hn:n<=350000000):S.s_l01Times (rp B10 x,(rp B10 y,()))=some (rp B10 (mulQ x y),()):=by
 unfold S.s_l01Times;dsimp only;rw[if_pos ⟨lowb_rp9 (by decide) hx bx (by omega),lowb_rp9 (by decide) hy bY (by omega)⟩,rv_rp a0d,rv_rp a0d]
abbrev P.s_l01Cut_b0 (x1:Int×ByteArray×Int×List ByteArray×Int×Unit) (g2:Int×ByteArray×Int×List ByteArray×Int×Unit->Option (List ByteArray×Unit)):Option (List ByteArray×Unit):=
 (fun(a c e:Int) (b:ByteArray) (d:List ByteArray)=>if decide (a<=(b.size:Int))then if a==(b.size:Int)then if decide (0<=a)then if decide (a<=(b.size:Int))then if decide (0<=e)then if decide (e<=a)then if decide (((d.length+(List.length [ByteArray.extract b e.toNat a.toNat]))*16)<=140737488355328)then g2 (wrap .i64 (a+1),b,c,d++[ByteArray.extract b e.toNat a.toNat],wrap .i64 (a+1),())else none else none else none else none else none else if decide (0<=a)then if decide (a<(b.size:Int))then if(byteAt b a)==c then if decide (0<=a)then if decide (a<=(b.size:Int))then if decide (0<=e)then if decide (e<=a)then if decide (((d.length+(List.length [ByteArray.extract b e.toNat a.toNat]))*16)<=140737488355328)then g2 (wrap .i64 (a+1),b,c,d++[ByteArray.extract b e.toNat a.toNat],wrap .i64 (a+1),())else none else none else none else none else none else g2 (wrap .i64 (a+1),b,c,d,e,())else none else none else some (d,())) x1.1 x1.2.2.1 x1.2.2.2.2.1 x1.2.1 x1.2.2.2.1
def P.s_l01Cut (k:Nat) (x:ByteArray×Int×Unit):Option (List ByteArray×Unit):=
 loopP P.s_l01Cut_b0 k (0,x.1,x.2.1,[],0,())
def cutUp (s:ByteArray) (c:Int):Nat->List ByteArray×Nat
 |0=>([],0)
 |i+1=>if i=s.size\/byteAt s (i:Int)=c then((cutUp s c i).1++[s.extract (cutUp s c i).2 i],i+1)else cutUp s c i
theorem cutUp_le (s:ByteArray) (c:Int) (i:Nat):(cutUp s c i).1.length<=i/\(cutUp s c i).2<=i:=by
 induction i with
 |zero=>exact⟨Nat.le_refl _,Nat.le_refl _⟩
 |succ i ih=>
  unfold cutUp;split
  ·refine⟨?_,Nat.le_refl _⟩;simp;omega
  ·omega
def S.s_l01Cut (x:(ByteArray×(Int×Unit))):(Option ((List ByteArray)×Unit)):=if x.1.size<=1000000 then some ((cutUp x.1 x.2.1 (x.1.size+1)).1,())else none
theorem S.s_l01Cut_ok (x r) (h:S.s_l01Cut x=some r):∃k,P.s_l01Cut k x=some r:=by
 obtain⟨s,c,u⟩:=x;unfold S.s_l01Cut at h;dsimp only at h;split at h
 case isFalse=>cases h
 rename_i hs;cases h;refine⟨s.size+2,?_⟩;unfold P.s_l01Cut;dsimp only;have key:=a0g (k:=s.size+2) (b:=P.s_l01Cut_b0) (n:=s.size+1) (st:=fun i=>((i:Int),s,c,(cutUp s c i).1,((cutUp s c i).2:Int),())) (F:=fun i=>some ((cutUp s c (s.size+1)).1,())) (fun i g hi hg=>by
  unfold P.s_l01Cut_b0;dsimp only at hg ⊢;obtain⟨q1,q2⟩:=cutUp_le s c i;have e1:(i:Int)<=(s.size:Int):=by omega
  have e2:(0:Int)<=(i:Int):=by omega
  have e3:(0:Int)<=((cutUp s c i).2:Int):=by omega
  have e4:((cutUp s c i).2:Int)<=(i:Int):=by omega
  have e5:((cutUp s c i).1.length+([s.extract (cutUp s c i).2 i]:List ByteArray).length)*16<=140737488355328:=by simp;omega
  rw[cutUp]at hg
  by_cases hq:i=s.size
  ·rw[if_pos (.inl hq)]at hg;rw[<-hg];have e6:((i:Int)==(s.size:Int))=true:=by simp [hq]
   simp only[e1,e2,e3,e4,e6,decide_true,if_true,Int.toNat_natCast];rw[if_pos (decide_eq_true e5),wr (by omega) (by omega)];rfl
  ·have e6:¬((i:Int)==(s.size:Int))=true:=by simp;omega
   have e7:(i:Int)<(s.size:Int):=by omega
   rw[if_pos (decide_eq_true e1),if_neg e6,if_pos (decide_eq_true e2),if_pos (decide_eq_true e7)]
   by_cases hb:byteAt s (i:Int)=c
   ·rw[if_pos (.inr hb)]at hg;rw[<-hg,if_pos (by simp [hb])];simp only[e1,e2,e3,e4,decide_true,if_true,Int.toNat_natCast];rw[if_pos (decide_eq_true e5),wr (by omega) (by omega)];rfl
   ·rw[if_neg (fun z=>z.elim hq hb)]at hg;rw[<-hg,if_neg (by simp [hb]),wr (by omega) (by omega)];rfl) (fun g=>by
  unfold P.s_l01Cut_b0;dsimp only;rw[if_neg (by simp;omega)]) (by omega)
 exact key
theorem cutUp_pieces (s:ByteArray) (c:UInt8):(cutUp s (c.toNat:Int) (s.size+1)).1.map (·.data.toList)=pieces c s.data.toList:=by
 have hsz:s.size=s.data.toList.length:=by rw[Array.length_toList];rfl
 have hex:∀a b,(s.extract a b).data.toList=(s.data.toList.take b).drop a:=by
  intro a b;simp [ByteArray.data_extract,Array.toList_extract,List.extract_eq_take_drop,List.drop_take]
 have key:∀i,i<=s.size->pieces c s.data.toList=(cutUp s (c.toNat:Int) i).1.map (·.data.toList)++glue ((s.data.toList.take i).drop (cutUp s (c.toNat:Int) i).2) (pieces c (s.data.toList.drop i)):=by
  intro i
  induction i with
  |zero=>
   intro _;simp [cutUp,glue_nil (pieces_ne c _)]
  |succ i ih=>
   intro hi;rw[ih (by omega)];obtain⟨q1,q2⟩:=cutUp_le s (c.toNat:Int) i;have hi':i<s.data.toList.length:=by omega
   have hb:byteAt s (i:Int)=(s.data.toList[i].toNat:Int):=by
    unfold byteAt;rw[a0o _ i _ hi']
   rw[List.drop_eq_getElem_cons hi',cutUp,pieces]
   by_cases hc:s.data.toList[i]=c
   ·rw[if_pos hc,if_pos (.inr (by rw[hb,hc]))];simp only[List.map_append,List.map_cons,List.map_nil,hex,List.append_assoc];congr 1;rw[show List.drop (i+1) (List.take (i+1) s.data.toList)=[]from List.drop_eq_nil_of_le (by simp;omega),glue_nil (pieces_ne c _)];simp [glue]
   ·rw[if_neg hc,if_neg (by
     rw[hb]
     rintro (h|h)
     ·omega
     ·exact hc (UInt8.toNat_inj.1 (by omega)))]
    rw[glue_glue,<-List.take_append_getElem hi',List.drop_append_of_le_length (by simp;omega)]
 have h:=key s.size (Nat.le_refl _);rw[h,cutUp,if_pos (.inl rfl)];simp only[List.map_append,List.map_cons,List.map_nil,hex];congr 1;rw[show List.drop s.size s.data.toList=[]from List.drop_eq_nil_of_le (by omega)];simp [pieces,glue]
abbrev s_l01NatRead.A:=Int×ByteArray×List Int×Unit
abbrev P.s_l01NatRead_b3 (g2:s_l01NatRead.A->Option (List Int×Unit)) (x4:Int×Int×s_l01NatRead.A) (g5:Int×Int×s_l01NatRead.A->Option (List Int×Unit)):Option (List Int×Unit):=
 (fun(a b c:Int) (d:ByteArray) (e:List Int)=>if decide (a<b)then if decide (0<=a)then if decide (a<(d.size:Int))then g5 (wrap .i64 (a+1),b,wrap .i64 ((wrap .i64 (10*c))+(wrap .i64 (wrap .u8 ((byteAt d a) - 48)))),d,e,())else none else none else if decide (((e.length+(List.length [c]))*8)<=140737488355328)then g2 (wrap .i64 (b - 9),d,e++[c],())else none) x4.1 x4.2.1 x4.2.2.1 x4.2.2.2.1 x4.2.2.2.2.1
abbrev P.s_l01NatRead_b0 (k:Nat) (x1:s_l01NatRead.A) (g2:s_l01NatRead.A->Option (List Int×Unit)):Option (List Int×Unit):=
 if decide (x1.1>0)then if decide (x1.1>9)then loopP (P.s_l01NatRead_b3 g2) k (wrap .i64 (x1.1 - 9),x1.1,0,x1.2.1,x1.2.2.1,())else loopP (P.s_l01NatRead_b3 g2) k (0,x1.1,0,x1.2.1,x1.2.2.1,())else(S.s_l01Trim (x1.2.2.1,())).bind fun y9=>some (y9.1,())
def P.s_l01NatRead (k:Nat) (x:ByteArray×Unit):Option (List Int×Unit):=
 loopP (P.s_l01NatRead_b0 k) k ((x.1.size:Int),x.1,[],())
theorem sr_inner (g) (s:ByteArray) (l:List UInt8) (hL:s.data.toList=l) (hd:allD l=true) (a n:Nat) (hn:n<=9) (han:a+n<=l.length) (hl:l.length<=1000000000) (out:List Int) (ho:out.length<=1000000000) (k:Nat) (hk:n<k):
  loopP (P.s_l01NatRead_b3 g) k ((a:Int),(((a+n:Nat):Int),((0:Int),(s,(out,())))))=g (((a+n:Nat):Int) - 9,(s,(out++[((dv ((l.drop a).take n):Nat):Int)],()))):=by
 have hs:s.size=l.length:=by rw[<-hL,Array.length_toList];rfl
 have key:=a0g (k:=k) (b:=P.s_l01NatRead_b3 g) (n:=n) (st:=fun i=>(((a+i:Nat):Int),((a+n:Nat):Int),((dv ((l.drop a).take i):Nat):Int),s,out,())) (F:=fun i=>g (((a+n:Nat):Int) - 9,(s,(out++[((dv ((l.drop a).take n):Nat):Int)],())))) (fun i g' hi hg'=>by
  unfold P.s_l01NatRead_b3;dsimp only at hg' ⊢;refine Eq.trans ?_ hg';have hi2:i<(l.drop a).length:=by rw[List.length_drop];omega
  have e1:((a+i:Nat):Int)<((a+n:Nat):Int):=by omega
  have e2:(0:Int)<=((a+i:Nat):Int):=by omega
  have e3:((a+i:Nat):Int)<(l.length:Int):=by omega
  have hb:byteAt s ((a+i:Nat):Int)=(((l.drop a)[i]).toNat:Int):=by
   unfold byteAt;rw[hL,a0o l (a+i) _ (by omega),List.getElem_drop]
  have hc:=allD_get (allD_drop hd a) hi2;have hv:=dv_lt (allD_take (allD_drop hd a) i);have hp:10^((l.drop a).take i).length<=10^9:=Nat.pow_le_pow_right (by decide) (by simp;omega);have hp9:(10:Nat)^9=1000000000:=by decide
  rw[hs,hb,wr (x:=((a+i:Nat):Int)+1) (by omega) (by omega)];simp only[e1,e2,e3,decide_true,if_true];rw[<-List.take_append_getElem hi2,dv_snoc];generalize (l.drop a)[i].toNat=c at*;generalize dv ((l.drop a).take i)=v at*;have h8:IntKind.wrap .u8 ((c:Int) - 48)=(c:Int) - 48:=IntWalk.u8_in _ (by omega);rw[h8,wr (x:=(c:Int) - 48) (by omega) (by omega),wr (x:=10*(v:Int)) (by omega) (by omega),wr (x:=10*(v:Int)+((c:Int) - 48)) (by omega) (by omega),show 10*(v:Int)+((c:Int) - 48)=((10*v+(c - 48):Nat):Int) by omega];rfl) (fun g'=>by
  unfold P.s_l01NatRead_b3;dsimp only;have hcap:(out.length+ [((dv ((l.drop a).take n):Nat):Int)].length)*8<=140737488355328:=by
   rw[List.length_singleton];omega
  rw[if_neg (by simp),if_pos (decide_eq_true hcap),wr (by omega) (by omega)]) hk
 exact key
theorem sr_outer (s:ByteArray) (l:List UInt8) (hL:s.data.toList=l) (hd:allD l=true) (hl:l.length<=1000000000) (K:Nat) (hK:9<K) (n:Nat):∀(to:Int) (out:List Int) (k:Nat),to<=(n:Int)-> -9<=to->to<=(l.length:Int)->n<k->dig B10 out=true->out.length+n<=l.length->a0c B10 out+B10^out.length*dv (l.take to.toNat)=dv l->
  loopP (P.s_l01NatRead_b0 K) k (to,(s,(out,())))=some (nd B10 (dv l),()):=by
 induction n using Nat.strongRecOn with
 |ind n ih=>
  intro to out k hto hlo htl hk hdo hol hv;obtain⟨k,rfl⟩:∃j,k=j+1:=⟨k - 1,by omega⟩
  rw[a0k];unfold P.s_l01NatRead_b0;dsimp only
  by_cases h0:to>0
  ·rw[if_pos (decide_eq_true h0)];obtain⟨m,rfl⟩:∃m:Nat,to=(m:Int):=⟨to.toNat,by omega⟩
   rw[Int.toNat_natCast]at hv;have hB9:B10=10^9:=by decide
   have hstep:∀a c:Nat,c<=9->a+c=m->(c=9\/a=0)->loopP (P.s_l01NatRead_b3 (loopP (P.s_l01NatRead_b0 K) k)) K ((a:Int),((m:Int),((0:Int),(s,(out,())))))=some (nd B10 (dv l),()):=by
    intro a c hc9 hm hor;have hin:=sr_inner (loopP (P.s_l01NatRead_b0 K) k) s l hL hd a c hc9 (by omega) hl out (by omega) K (by omega);rw[hm]at hin;rw[hin];have htk:l.take m=l.take a++(l.drop a).take c:=by rw[<-hm,List.take_add]
    have hpc:((l.drop a).take c).length=c:=by simp;omega
    have hpd:=dv_lt (allD_take (allD_drop hd a) c);rw[hpc]at hpd;have hp9:10^c<=10^9:=Nat.pow_le_pow_right (by decide) hc9;have hpB:dv ((l.drop a).take c)<B10:=by rw[hB9];omega
    have hta:l.take ((m:Int) - 9).toNat=l.take a:=by
     rcases hor with g|g
     ·rw[show((m:Int) - 9).toNat=a by omega]
     ·subst g;rw[show((m:Int) - 9).toNat=0 by omega]
    refine ih (n - 1) (by omega) _ _ k (by omega) (by omega) (by omega) (by omega) ?_ (by rw[List.length_append,List.length_singleton];omega) ?_
    ·rw[dig_append,hdo,Bool.true_and,dig_cons];exact⟨⟨by omega,by omega⟩,rfl⟩
    ·rw[hta,a0z,List.length_append,List.length_singleton,Nat.pow_succ,<-hv,htk,dv_append,hpc];have e1:a0c B10 [((dv ((l.drop a).take c):Nat):Int)]=dv ((l.drop a).take c):=by rw[a0c,Int.toNat_natCast];rfl
     rw[e1];rcases hor with g|g
     ·rw[g,<-hB9,Nat.mul_assoc,Nat.mul_add,Nat.mul_comm B10];omega
     ·subst g;have:dv (l.take 0)=0:=by rw[List.take_zero];rfl
      rw[this,Nat.mul_zero,Nat.zero_mul,Nat.zero_add];omega
   by_cases h9:(m:Int)>9
   ·rw[if_pos (decide_eq_true h9),wr (by omega) (by omega),show(m:Int) - 9=((m - 9:Nat):Int) by omega];exact hstep (m - 9) 9 (Nat.le_refl _) (by omega) (.inl rfl)
   ·rw[if_neg (by simpa using h9)];exact hstep 0 m (by omega) (by omega) (.inr rfl)
  ·rw[if_neg (by simpa using h0)];have h00:to.toNat=0:=by omega
   rw[h00,List.take_zero,show dv []=0 from rfl,Nat.mul_zero,Nat.add_zero]at hv;unfold S.s_l01Trim;dsimp only;rw[if_pos ⟨hdo,by omega⟩,Option.bind_some,hv]
def S.a0r (x:(ByteArray×Unit)):(Option ((List Int)×Unit)):=if allD x.1.data.toList=true/\x.1.data.toList.length<=1000000000 then some (nd B10 (dv x.1.data.toList),())else none
theorem S.s_l01NatRead_ok (x r) (h:S.a0r x=some r):∃k,P.s_l01NatRead k x=some r:=by
 obtain⟨s,u⟩:=x;unfold S.a0r at h;dsimp only at h;split at h
 case isFalse=>cases h
 rename_i hc;obtain⟨hd,hl⟩:=hc;cases h;have hs:s.size=s.data.toList.length:=by rw[Array.length_toList];rfl
 refine⟨s.data.toList.length+10,?_⟩;unfold P.s_l01NatRead;dsimp only;rw[hs];exact sr_outer s _ rfl hd hl _ (by omega) s.data.toList.length _ [] _ (Int.le_refl _) (by omega) (Int.le_refl _) (by omega) rfl (by simp) (by rw[Int.toNat_natCast,List.take_length];simp [a0c])
abbrev P.s_l01Digits_b0 (x1:Int×ByteArray×Unit) (g2:Int×ByteArray×Unit->Option (Bool×Unit)):Option (Bool×Unit):=
 (fun(a:Int) (b:ByteArray)=>if decide (a<(b.size:Int))then if decide (0<=a)then if decide (a<(b.size:Int))then if decide ((byteAt b a)<48)then some (false,())else if decide (0<=a)then if decide (a<(b.size:Int))then if decide ((byteAt b a)>57)then some (false,())else g2 (wrap .i64 (a+1),b,())else none else none else none else none else if decide ((b.size:Int)>=1)then if decide ((b.size:Int)<=200)then if(b.size:Int)==1 then some (true,())else if decide (0<(b.size:Int))then some ((byteAt b 0) != 48,())else none else some (false,())else some (false,())) x1.1 x1.2.1
def P.s_l01Digits (k:Nat) (x:ByteArray×Unit):Option (Bool×Unit):=
 loopP P.s_l01Digits_b0 k (0,x.1,())
def S.a0y (x:(ByteArray×Unit)):(Option (Bool×Unit)):=if x.1.size<=281474976710656 then some (okN x.1.data.toList,())else none
theorem S.s_l01Digits_ok (x r) (h:S.a0y x=some r):∃k,P.s_l01Digits k x=some r:=by
 obtain⟨s,u⟩:=x;unfold S.a0y at h;dsimp only at h;split at h
 case isFalse=>cases h
 rename_i hsz;cases h;have hs:s.size=s.data.toList.length:=by rw[Array.length_toList];rfl
 rw[hs]at hsz;refine⟨s.data.toList.length+1,?_⟩;unfold P.s_l01Digits;dsimp only;generalize hL:s.data.toList=l at*;have key:=a0g (k:=l.length+1) (b:=P.s_l01Digits_b0) (n:=l.length) (st:=fun i=>((i:Int),s,())) (F:=fun i=>some (allD (l.drop i)&&okR l,())) (fun i g hi hg=>by
  unfold P.s_l01Digits_b0;dsimp only at hg ⊢;have e1:(i:Int)<(l.length:Int):=by omega
  have e2:(0:Int)<=(i:Int):=by omega
  have hb:byteAt s (i:Int)=(l[i].toNat:Int):=by
   unfold byteAt;rw[hL,a0o l i _ hi]
  have ha:allD (l.drop i)=(isD l[i]&&allD (l.drop (i+1))):=by
   rw[List.drop_eq_getElem_cons hi];rfl
  rw[hs,hb,wr (x:=(i:Int)+1) (by omega) (by omega),ha];simp only[e1,e2,decide_true,if_true];unfold isD
  by_cases c1:48<=l[i].toNat
  ·rw[if_neg (by simp;omega)]
   by_cases c2:l[i].toNat<=57
   ·rw[if_neg (by simp;omega),decide_eq_true ⟨c1,c2⟩,Bool.true_and];exact hg
   ·rw[if_pos (decide_eq_true (by omega)),decide_eq_false (fun q=>c2 q.2)];rfl
  ·rw[if_pos (decide_eq_true (by omega)),decide_eq_false (fun q=>c1 q.1)];rfl) (fun g=>by
  unfold P.s_l01Digits_b0;dsimp only;rw[hs,if_neg (by simp),List.drop_length,show allD []=true from rfl,Bool.true_and];unfold okR
  by_cases h1:l=[]
  ·subst h1;rfl
  ·have hpos:0<l.length:=List.length_pos_iff.2 h1;have d1:(l.length:Int)>=1:=by omega
   rw[if_pos (decide_eq_true d1),decide_eq_true h1,Bool.true_and]
   by_cases h2:l.length<=200
   ·have d2:(l.length:Int)<=200:=by omega
    rw[if_pos (decide_eq_true d2),decide_eq_true h2,Bool.true_and]
    by_cases h3:l.length=1
    ·have d3:(((l.length:Nat):Int)==(1:Int))=true:=by simp [h3]
     rw[if_pos d3,decide_eq_true h3,Bool.true_or]
    ·have d3:¬(((l.length:Nat):Int)==(1:Int))=true:=by simp;omega
     have d4:(0:Int)<(l.length:Int):=by omega
     rw[if_neg d3,if_pos (decide_eq_true d4),decide_eq_false h3,Bool.false_or];have hb:byteAt s 0=(l[0].toNat:Int):=by
      unfold byteAt;rw[hL];simp [hpos]
     have hh:l.head? =some l[0]:=by
      cases l with
      |nil=>simp at h1
      |cons c r=>rfl
     rw[hb,hh]
     by_cases c1:l[0]=48
     ·rw[c1];rfl
     ·have:¬((l[0].toNat:Int)=48):=by
       intro q;apply c1;apply UInt8.toNat_inj.1;show _=48;omega
      rw[decide_eq_true (by simpa using c1)];simpa [bne]using this
   ·have d2:¬(l.length:Int)<=200:=by omega
    rw[if_neg (by simpa using d2),decide_eq_false h2,Bool.false_and]) (by omega)
 rw[List.drop_zero]at key;exact key
def P.s_l01Parse (k:Nat) (x:ByteArray×Unit):Option ((RB×Bool)×Unit):=
 if decide ((x.1.size:Int)>0)then if decide (0<(x.1.size:Int))then if(byteAt x.1 0)==45 then if decide (0<=(x.1.size:Int))then if decide ((x.1.size:Int)<=(x.1.size:Int))then if decide (1<=(x.1.size:Int))then(S.s_l01Cut (ByteArray.extract x.1 1 (Int.toNat (x.1.size:Int)),47,())).bind fun y0=>if decide ((y0.1.length:Int)>2)then some (((false,[],[]),false),())else if decide (0<(y0.1.length:Int))then(S.a0y (y0.1.getD 0 (bs []),())).bind fun y1=>if !y1.1 then some (((false,[],[]),false),())else if decide (0<(y0.1.length:Int))then(S.a0r (y0.1.getD 0 (bs []),())).bind fun y2=>if(byteAt x.1 0)==45 then if(y2.1.length:Int)==0 then some (((false,[],[]),false),())else if(y0.1.length:Int)==1 then some ((((byteAt x.1 0)==45,y2.1,[1]),true),())else if decide (1<(y0.1.length:Int))then(S.a0y (y0.1.getD 1 (bs []),())).bind fun y3=>if !y3.1 then some (((false,[],[]),false),())else if decide (1<(y0.1.length:Int))then(S.a0r (y0.1.getD 1 (bs []),())).bind fun y4=>(S.a0m (y4.1,[1],())).bind fun y5=>if decide (y5.1<=0)then some (((false,[],[]),false),())else(S.s_l01Gcd (y2.1,y4.1,())).bind fun y6=>(S.a0m (y6.1,[1],())).bind fun y7=>if y7.1 != 0 then some (((false,[],[]),false),())else some ((((byteAt x.1 0)==45,y2.1,y4.1),true),())else none else none else if(y0.1.length:Int)==1 then some ((((byteAt x.1 0)==45,y2.1,[1]),true),())else if decide (1<(y0.1.length:Int))then(S.a0y (y0.1.getD 1 (bs []),())).bind fun y8=>if !y8.1 then some (((false,[],[]),false),())else if decide (1<(y0.1.length:Int))then(S.a0r (y0.1.getD 1 (bs []),())).bind fun y9=>(S.a0m (y9.1,[1],())).bind fun y10=>if decide (y10.1<=0)then some (((false,[],[]),false),())else(S.s_l01Gcd (y2.1,y9.1,())).bind fun y11=>(S.a0m (y11.1,[1],())).bind fun y12=>if y12.1 != 0 then some (((false,[],[]),false),())else some ((((byteAt x.1 0)==45,y2.1,y9.1),true),())else none else none else none else none else none else none else none else(S.s_l01Cut (x.1,47,())).bind fun y13=>if decide ((y13.1.length:Int)>2)then some (((false,[],[]),false),())else if decide (0<(y13.1.length:Int))then(S.a0y (y13.1.getD 0 (bs []),())).bind fun y14=>if !y14.1 then some (((false,[],[]),false),())else if decide (0<(y13.1.length:Int))then(S.a0r (y13.1.getD 0 (bs []),())).bind fun y15=>if(byteAt x.1 0)==45 then if(y15.1.length:Int)==0 then some (((false,[],[]),false),())else if(y13.1.length:Int)==1 then some ((((byteAt x.1 0)==45,y15.1,[1]),true),())else if decide (1<(y13.1.length:Int))then(S.a0y (y13.1.getD 1 (bs []),())).bind fun y16=>if !y16.1 then some (((false,[],[]),false),())else if decide (1<(y13.1.length:Int))then(S.a0r (y13.1.getD 1 (bs []),())).bind fun y17=>(S.a0m (y17.1,[1],())).bind fun y18=>if decide (y18.1<=0)then some (((false,[],[]),false),())else(S.s_l01Gcd (y15.1,y17.1,())).bind fun y19=>(S.a0m (y19.1,[1],())).bind fun y20=>if y20.1 != 0 then some (((false,[],[]),false),())else some ((((byteAt x.1 0)==45,y15.1,y17.1),true),())else none else none else if(y13.1.length:Int)==1 then some ((((byteAt x.1 0)==45,y15.1,[1]),true),())else if decide (1<(y13.1.length:Int))then(S.a0y (y13.1.getD 1 (bs []),())).bind fun y21=>if !y21.1 then some (((false,[],[]),false),())else if decide (1<(y13.1.length:Int))then(S.a0r (y13.1.getD 1 (bs []),())).bind fun y22=>(S.a0m (y22.1,[1],())).bind fun y23=>if decide (y23.1<=0)then some (((false,[],[]),false),())else(S.s_l01Gcd (y15.1,y22.1,())).bind fun y24=>(S.a0m (y24.1,[1],())).bind fun y25=>if y25.1 != 0 then some (((false,[],[]),false),())else some ((((byteAt x.1 0)==45,y15.1,y22.1),true),())else none else none else none else none else none else(S.s_l01Cut (x.1,47,())).bind fun y26=>if decide ((y26.1.length:Int)>2)then some (((false,[],[]),false),())else if decide (0<(y26.1.length:Int))then(S.a0y (y26.1.getD 0 (bs []),())).bind fun y27=>if !y27.1 then some (((false,[],[]),false),())else if decide (0<(y26.1.length:Int))then(S.a0r (y26.1.getD 0 (bs []),())).bind fun y28=>if(y26.1.length:Int)==1 then some (((false,y28.1,[1]),true),())else if decide (1<(y26.1.length:Int))then(S.a0y (y26.1.getD 1 (bs []),())).bind fun y29=>if !y29.1 then some (((false,[],[]),false),())else if decide (1<(y26.1.length:Int))then(S.a0r (y26.1.getD 1 (bs []),())).bind fun y30=>(S.a0m (y30.1,[1],())).bind fun y31=>if decide (y31.1<=0)then some (((false,[],[]),false),())else(S.s_l01Gcd (y28.1,y30.1,())).bind fun y32=>(S.a0m (y32.1,[1],())).bind fun y33=>if y33.1 != 0 then some (((false,[],[]),false),())else some (((false,y28.1,y30.1),true),())else none else none else none else none
theorem pp_sign (T:ByteArray) (n:Bool) (hsz:T.size<=1000000):
  (Option.bind (S.s_l01Cut (T,((47:Int),()))) (fun(z0:((List ByteArray)×Unit))=>(if((decide (((List.length z0.1):Int)>(2:Int)))=true)then(some (((false,(([]:List Int),([]:List Int))),false),()))
 else(if((decide ((0:Int)<((List.length z0.1):Int)))=true)then(Option.bind (S.a0y ((List.getD z0.1 (0:Nat) (Go.Cm.bs [])),())) (fun(z1:(Bool×Unit))=>(if((!z1.1)=true)then(some (((false,(([]:List Int),([]:List Int))),false),()))
 else(if((decide ((0:Int)<((List.length z0.1):Int)))=true)then(Option.bind (S.a0r ((List.getD z0.1 (0:Nat) (Go.Cm.bs [])),())) (fun(z2:((List Int)×Unit))=>(if(n=true)then(if((((List.length z2.1):Int)==(0:Int))=true)then(some (((false,(([]:List Int),([]:List Int))),false),()))
 else(if((((List.length z0.1):Int)==(1:Int))=true)then(some (((n,(z2.1,((1:Int)::([]:List Int)))),true),()))
 else(if((decide ((1:Int)<((List.length z0.1):Int)))=true)then(Option.bind (S.a0y ((List.getD z0.1 (1:Nat) (Go.Cm.bs [])),())) (fun(z3:(Bool×Unit))=>(if((!z3.1)=true)then(some (((false,(([]:List Int),([]:List Int))),false),()))
 else(if((decide ((1:Int)<((List.length z0.1):Int)))=true)then(Option.bind (S.a0r ((List.getD z0.1 (1:Nat) (Go.Cm.bs [])),())) (fun(z4:((List Int)×Unit))=>(Option.bind (S.a0m (z4.1,(((1:Int)::([]:List Int)),()))) (fun(z5:(Int×Unit))=>(if((decide (z5.1<=(0:Int)))=true)then(some (((false,(([]:List Int),([]:List Int))),false),()))
 else(Option.bind (S.s_l01Gcd (z2.1,(z4.1,()))) (fun(z6:((List Int)×Unit))=>(Option.bind (S.a0m (z6.1,(((1:Int)::([]:List Int)),()))) (fun(z7:(Int×Unit))=>(if((z7.1 != (0:Int))=true)then(some (((false,(([]:List Int),([]:List Int))),false),()))
 else(some (((n,(z2.1,z4.1)),true),()))))))))))))
 else none))))
 else none)))
 else(if((((List.length z0.1):Int)==(1:Int))=true)then(some (((n,(z2.1,((1:Int)::([]:List Int)))),true),()))
 else(if((decide ((1:Int)<((List.length z0.1):Int)))=true)then(Option.bind (S.a0y ((List.getD z0.1 (1:Nat) (Go.Cm.bs [])),())) (fun(z8:(Bool×Unit))=>(if((!z8.1)=true)then(some (((false,(([]:List Int),([]:List Int))),false),()))
 else(if((decide ((1:Int)<((List.length z0.1):Int)))=true)then(Option.bind (S.a0r ((List.getD z0.1 (1:Nat) (Go.Cm.bs [])),())) (fun(z9:((List Int)×Unit))=>(Option.bind (S.a0m (z9.1,(((1:Int)::([]:List Int)),()))) (fun(z10:(Int×Unit))=>(if((decide (z10.1<=(0:Int)))=true)then(some (((false,(([]:List Int),([]:List Int))),false),()))
 else(Option.bind (S.s_l01Gcd (z2.1,(z9.1,()))) (fun(z11:((List Int)×Unit))=>(Option.bind (S.a0m (z11.1,(((1:Int)::([]:List Int)),()))) (fun(z12:(Int×Unit))=>(if((z12.1 != (0:Int))=true)then(some (((false,(([]:List Int),([]:List Int))),false),()))
 else(some (((n,(z2.1,z9.1)),true),()))))))))))))
 else none))))
 else none)))))
 else none))))
 else none))))=some ((rp B10 (rdBody n (cutP 47 T.data.toList)).1,(rdBody n (cutP 47 T.data.toList)).2),()):=by
 have hbad:((false,(([]:List Int),([]:List Int))),false)=(rp B10 noQ.1,noQ.2):=by
  unfold noQ rp;dsimp only;rw[nd_zero a0d]
 have hcut:S.s_l01Cut (T,(47,()))=some ((cutUp T 47 (T.size+1)).1,()):=by
  unfold S.s_l01Cut;exact if_pos hsz
 have hp:(cutUp T 47 (T.size+1)).1.map (·.data.toList)=pieces 47 T.data.toList:=cutUp_pieces T 47;have hlen:∀A∈(cutUp T 47 (T.size+1)).1,A.data.toList.length<=1000000:=by
  intro A hA;have h1:=pieces_len 47 T.data.toList A.data.toList (by rw[<-hp];exact List.mem_map_of_mem hA);have h2:T.size=T.data.toList.length:=by rw[Array.length_toList];rfl
  omega
 rw[hcut,Option.bind_some,hbad];generalize (cutUp T 47 (T.size+1)).1=ps at*;rw[pieces_cutP]at hp;generalize hc:cutP 47 T.data.toList=c at*;have hDig:∀A∈ps,S.a0y (A,())=some (okN A.data.toList,()):=by
  intro A hA;have h1:=hlen A hA;have h2:A.size=A.data.toList.length:=by rw[Array.length_toList];rfl
  unfold S.a0y;exact if_pos (by dsimp only;omega)
 have hRead:∀A∈ps,okN A.data.toList=true->S.a0r (A,())=some (nd B10 (dv A.data.toList),()):=by
  intro A hA hok;have h1:=okN_allD hok;unfold S.a0r;exact if_pos ⟨h1.1,by dsimp only;omega⟩
 have hz:∀m:Nat,(((nd B10 m).length:Int)==0)=decide (m=0):=by
  intro m;have:=canon_nil a0d (a0j a0d m);rw[a0i a0d]at this
  by_cases h0:m=0
  ·rw[this.2 h0,h0];rfl
  ·have hne:=fun q=>h0 (this.1 q)
   rw[decide_eq_false h0];simpa using hne
 have hone:([1]:List Int)=nd B10 1:=(nd_one a0d).symm;unfold rdBody;cases hf:c.2.2
 ·
  rw[hf,if_neg (by decide)]at hp;obtain⟨A,rfl,hA⟩:∃A,ps=[A]/\A.data.toList=c.1:=by
   exact List.map_eq_singleton_iff.1 hp
  have hd:=hDig A (by simp);have hr:=hRead A (by simp);rw[hA]at hd hr;have l1:¬(((List.length [A]:Nat):Int)>2):=by simp
  have l2:(0:Int)<((List.length [A]:Nat):Int):=by simp
  have l3:(((List.length [A]:Nat):Int)==1)=true:=rfl;simp only[l1,l2,l3,decide_true,decide_false,if_true,if_false,Bool.false_eq_true,List.getD_cons_zero];rw[hd,Option.bind_some];dsimp only;cases hok:okN c.1
  ·rw[if_pos (show(!false)=true by rfl),if_neg (fun q=>by cases q.1)]
  ·rw[if_neg (show ¬((!true)=true) by decide),hr hok,Option.bind_some];dsimp only;rw[hz];cases n
   ·rw[if_neg (show ¬((false:Bool)=true) by decide),if_pos ⟨rfl,fun q=>by cases q.1⟩,hone];rfl
   ·rw[if_pos rfl]
    by_cases h0:dv c.1=0
    ·rw[if_pos (decide_eq_true h0),if_neg (fun q=>q.2 ⟨rfl,h0⟩)]
    ·rw[if_neg (by simpa using h0),if_pos ⟨rfl,fun q=>h0 q.2⟩,hone];rfl
 ·rw[hf,if_pos rfl,pieces_cutP]at hp;cases hf2:(cutP 47 c.2.1).2.2
  ·rw[hf2,if_neg (by decide)]at hp;have hy:(cutP 47 c.2.1).1=c.2.1:=((cutP_index 47 c.2.1).1 hf2).2.1;rw[hy]at hp;obtain⟨A,B,rfl,hA,hB⟩:∃A B,ps=[A,B]/\A.data.toList=c.1/\B.data.toList=c.2.1:=by
    obtain⟨A,q,rfl,hA,hq⟩:=List.map_eq_cons_iff.1 hp;obtain⟨B,rfl,hB⟩:=List.map_eq_singleton_iff.1 hq;exact⟨A,B,rfl,hA,hB⟩
   have hd:=hDig A (by simp);have hr:=hRead A (by simp);have hd2:=hDig B (by simp);have hr2:=hRead B (by simp);rw[hA]at hd hr;rw[hB]at hd2 hr2;have l1:¬(((List.length [A,B]:Nat):Int)>2):=by simp
   have l2:(0:Int)<((List.length [A,B]:Nat):Int):=by simp
   have l3:(((List.length [A,B]:Nat):Int)==1)=false:=rfl;have l4:(1:Int)<((List.length [A,B]:Nat):Int):=by simp
   simp only[l1,l2,l3,l4,decide_true,decide_false,if_true,if_false,Bool.false_eq_true,List.getD_cons_zero,List.getD_cons_succ];rw[hd,Option.bind_some];dsimp only;cases hok:okN c.1
   ·rw[if_pos (show(!false)=true by rfl),if_neg (fun q=>by cases q.1)]
   ·rw[if_neg (show ¬((!true)=true) by decide),hr hok,Option.bind_some];dsimp only;have la:=nd_len200 (B:=B10) (by decide) (okN_lt hok);have hrest:∀(m:Bool),¬(m=true/\dv c.1=0)->(Option.bind (S.a0y (B,())) (fun(w0:(Bool×Unit))=>(if((!w0.1)=true)then(some ((rp B10 noQ.1,noQ.2),()))
 else(Option.bind (S.a0r (B,())) (fun(w1:((List Int)×Unit))=>(Option.bind (S.a0m (w1.1,(((1:Int)::([]:List Int)),()))) (fun(w2:(Int×Unit))=>(if((decide (w2.1<=(0:Int)))=true)then(some ((rp B10 noQ.1,noQ.2),()))
 else(Option.bind (S.s_l01Gcd (nd B10 (dv c.1),(w1.1,()))) (fun(w3:((List Int)×Unit))=>(Option.bind (S.a0m (w3.1,(((1:Int)::([]:List Int)),()))) (fun(w4:(Int×Unit))=>(if((w4.1 != (0:Int))=true)then(some ((rp B10 noQ.1,noQ.2),()))
 else(some (((m,(nd B10 (dv c.1),w1.1)),true),())))))))))))))))=some ((rp B10 (if okN c.2.1=true/\1<dv c.2.1/\Nat.gcd (dv c.1) (dv c.2.1)=1 then((m,(dv c.1,dv c.2.1)),true)else noQ).1,(if okN c.2.1=true/\1<dv c.2.1/\Nat.gcd (dv c.1) (dv c.2.1)=1 then((m,(dv c.1,dv c.2.1)),true)else noQ).2),()):=by
     intro m hm;rw[hd2,Option.bind_some];dsimp only;cases hb:okN c.2.1
     ·have hx:¬((false:Bool)=true/\1<dv c.2.1/\Nat.gcd (dv c.1) (dv c.2.1)=1):=fun q=>by cases q.1
      rw[if_pos (show(!false)=true by rfl),if_neg hx]
     ·have lb:=nd_len200 (B:=B10) (by decide) (okN_lt hb);rw[if_neg (show ¬((!true)=true) by decide),hr2 hb,Option.bind_some];dsimp only;have e1:S.a0m (nd B10 (dv c.2.1),([1],()))=some (cmpN (dv c.2.1) 1,()):=by
       unfold S.a0m;dsimp only;rw[if_pos ⟨a0j a0d _,canon_one a0d,by omega⟩,a0i a0d,dval_one]
      have e2:S.s_l01Gcd (nd B10 (dv c.1),(nd B10 (dv c.2.1),()))=some (nd B10 (Nat.gcd (dv c.1) (dv c.2.1)),()):=by
       unfold S.s_l01Gcd;dsimp only;rw[if_pos ⟨a0j a0d _,a0j a0d _,by omega,by omega⟩,a0i a0d,a0i a0d]
      rw[e1,Option.bind_some];dsimp only
      by_cases h1:1<dv c.2.1
      ·have hcm:¬(cmpN (dv c.2.1) 1<=0):=by
        have:=(cmpN_gt (a:=dv c.2.1) (b:=1)).2 h1;omega
       have lg:(nd B10 (Nat.gcd (dv c.1) (dv c.2.1))).length<=200:=Nat.le_trans (nd_shorter' a0d (Nat.le_of_dvd (by omega) (Nat.gcd_dvd_right _ _))) lb;have e3:S.a0m (nd B10 (Nat.gcd (dv c.1) (dv c.2.1)),([1],()))=some (cmpN (Nat.gcd (dv c.1) (dv c.2.1)) 1,()):=by
        unfold S.a0m;dsimp only;rw[if_pos ⟨a0j a0d _,canon_one a0d,by omega⟩,a0i a0d,dval_one]
       rw[if_neg (by simpa using hcm),e2,Option.bind_some];dsimp only;rw[e3,Option.bind_some];dsimp only
       by_cases hg:Nat.gcd (dv c.1) (dv c.2.1)=1
       ·rw[if_neg (by simpa using cmpN_zero.2 hg),if_pos ⟨rfl,h1,hg⟩];rfl
       ·rw[if_pos (by simpa using fun q=>hg (cmpN_zero.1 q)),if_neg (fun q=>hg q.2.2)]
      ·have hcm:cmpN (dv c.2.1) 1<=0:=by
        have h2:¬(cmpN (dv c.2.1) 1>0):=fun q=>h1 ((cmpN_gt (a:=dv c.2.1) (b:=1)).1 q)
        omega
       rw[if_pos (decide_eq_true hcm),if_neg (fun q=>h1 q.2.1)]
    rw[hz];cases n
    ·have hm:¬((false:Bool)=true/\dv c.1=0):=fun q=>by cases q.1
     rw[if_neg (show ¬((false:Bool)=true) by decide),if_pos ⟨rfl,hm⟩];exact hrest false hm
    ·rw[if_pos rfl]
     by_cases h0:dv c.1=0
     ·rw[if_pos (decide_eq_true h0),if_neg (fun q=>q.2 ⟨rfl,h0⟩)]
     ·have hm:¬((true:Bool)=true/\dv c.1=0):=fun q=>h0 q.2
      rw[if_neg (by simpa using h0),if_pos ⟨rfl,hm⟩];exact hrest true hm
  ·
   rw[hf2,if_pos rfl]at hp;have hl:ps.length=2+(pieces 47 (cutP 47 c.2.1).2.1).length:=by
    have:=congrArg List.length hp;simp at this;omega
   have hl2:(pieces 47 (cutP 47 c.2.1).2.1).length≠0:=fun q=>pieces_ne 47 _ (List.eq_nil_of_length_eq_zero q)
   have l1:((ps.length:Nat):Int)>2:=by omega
   have hx:¬(okN c.2.1=true/\1<dv c.2.1/\Nat.gcd (dv c.1) (dv c.2.1)=1):=fun q=>by
    have:=cutP_allD (okN_allD q.1).1;rw[hf2]at this;cases this
   rw[if_pos (decide_eq_true l1),if_pos rfl,if_neg hx];split<;>rfl
theorem pp_plain (T:ByteArray) (hsz:T.size<=1000000):
  (Option.bind (S.s_l01Cut (T,((47:Int),()))) (fun(z0:((List ByteArray)×Unit))=>(if((decide (((List.length z0.1):Int)>(2:Int)))=true)then(some (((false,(([]:List Int),([]:List Int))),false),()))
 else(if((decide ((0:Int)<((List.length z0.1):Int)))=true)then(Option.bind (S.a0y ((List.getD z0.1 (0:Nat) (Go.Cm.bs [])),())) (fun(z1:(Bool×Unit))=>(if((!z1.1)=true)then(some (((false,(([]:List Int),([]:List Int))),false),()))
 else(if((decide ((0:Int)<((List.length z0.1):Int)))=true)then(Option.bind (S.a0r ((List.getD z0.1 (0:Nat) (Go.Cm.bs [])),())) (fun(z2:((List Int)×Unit))=>(if((((List.length z0.1):Int)==(1:Int))=true)then(some (((false,(z2.1,((1:Int)::([]:List Int)))),true),()))
 else(if((decide ((1:Int)<((List.length z0.1):Int)))=true)then(Option.bind (S.a0y ((List.getD z0.1 (1:Nat) (Go.Cm.bs [])),())) (fun(z3:(Bool×Unit))=>(if((!z3.1)=true)then(some (((false,(([]:List Int),([]:List Int))),false),()))
 else(if((decide ((1:Int)<((List.length z0.1):Int)))=true)then(Option.bind (S.a0r ((List.getD z0.1 (1:Nat) (Go.Cm.bs [])),())) (fun(z4:((List Int)×Unit))=>(Option.bind (S.a0m (z4.1,(((1:Int)::([]:List Int)),()))) (fun(z5:(Int×Unit))=>(if((decide (z5.1<=(0:Int)))=true)then(some (((false,(([]:List Int),([]:List Int))),false),()))
 else(Option.bind (S.s_l01Gcd (z2.1,(z4.1,()))) (fun(z6:((List Int)×Unit))=>(Option.bind (S.a0m (z6.1,(((1:Int)::([]:List Int)),()))) (fun(z7:(Int×Unit))=>(if((z7.1 != (0:Int))=true)then(some (((false,(([]:List Int),([]:List Int))),false),()))
 else(some (((false,(z2.1,z4.1)),true),()))))))))))))
 else none))))
 else none))))
 else none))))
 else none))))=some ((rp B10 (rdBody false (cutP 47 T.data.toList)).1,(rdBody false (cutP 47 T.data.toList)).2),()):=by
 have hbad:((false,(([]:List Int),([]:List Int))),false)=(rp B10 noQ.1,noQ.2):=by
  unfold noQ rp;dsimp only;rw[nd_zero a0d]
 have hcut:S.s_l01Cut (T,(47,()))=some ((cutUp T 47 (T.size+1)).1,()):=by
  unfold S.s_l01Cut;exact if_pos hsz
 have hp:(cutUp T 47 (T.size+1)).1.map (·.data.toList)=pieces 47 T.data.toList:=cutUp_pieces T 47;have hlen:∀A∈(cutUp T 47 (T.size+1)).1,A.data.toList.length<=1000000:=by
  intro A hA;have h1:=pieces_len 47 T.data.toList A.data.toList (by rw[<-hp];exact List.mem_map_of_mem hA);have h2:T.size=T.data.toList.length:=by rw[Array.length_toList];rfl
  omega
 rw[hcut,Option.bind_some,hbad];generalize (cutUp T 47 (T.size+1)).1=ps at*;rw[pieces_cutP]at hp;generalize hc:cutP 47 T.data.toList=c at*;have hDig:∀A∈ps,S.a0y (A,())=some (okN A.data.toList,()):=by
  intro A hA;have h1:=hlen A hA;have h2:A.size=A.data.toList.length:=by rw[Array.length_toList];rfl
  unfold S.a0y;exact if_pos (by dsimp only;omega)
 have hRead:∀A∈ps,okN A.data.toList=true->S.a0r (A,())=some (nd B10 (dv A.data.toList),()):=by
  intro A hA hok;have h1:=okN_allD hok;unfold S.a0r;exact if_pos ⟨h1.1,by dsimp only;omega⟩
 have hz:∀m:Nat,(((nd B10 m).length:Int)==0)=decide (m=0):=by
  intro m;have:=canon_nil a0d (a0j a0d m);rw[a0i a0d]at this
  by_cases h0:m=0
  ·rw[this.2 h0,h0];rfl
  ·have hne:=fun q=>h0 (this.1 q)
   rw[decide_eq_false h0];simpa using hne
 have hone:([1]:List Int)=nd B10 1:=(nd_one a0d).symm;unfold rdBody;cases hf:c.2.2
 ·
  rw[hf,if_neg (by decide)]at hp;obtain⟨A,rfl,hA⟩:∃A,ps=[A]/\A.data.toList=c.1:=by
   exact List.map_eq_singleton_iff.1 hp
  have hd:=hDig A (by simp);have hr:=hRead A (by simp);rw[hA]at hd hr;have l1:¬(((List.length [A]:Nat):Int)>2):=by simp
  have l2:(0:Int)<((List.length [A]:Nat):Int):=by simp
  have l3:(((List.length [A]:Nat):Int)==1)=true:=rfl;simp only[l1,l2,l3,decide_true,decide_false,if_true,if_false,Bool.false_eq_true,List.getD_cons_zero];rw[hd,Option.bind_some];dsimp only;cases hok:okN c.1
  ·rw[if_pos (show(!false)=true by rfl),if_neg (fun q=>by cases q.1)]
  ·rw[if_neg (show ¬((!true)=true) by decide),hr hok,Option.bind_some];dsimp only;rw[if_pos ⟨rfl,fun q=>by cases q.1⟩,hone];rfl
 ·rw[hf,if_pos rfl,pieces_cutP]at hp;cases hf2:(cutP 47 c.2.1).2.2
  ·rw[hf2,if_neg (by decide)]at hp;have hy:(cutP 47 c.2.1).1=c.2.1:=((cutP_index 47 c.2.1).1 hf2).2.1;rw[hy]at hp;obtain⟨A,B,rfl,hA,hB⟩:∃A B,ps=[A,B]/\A.data.toList=c.1/\B.data.toList=c.2.1:=by
    obtain⟨A,q,rfl,hA,hq⟩:=List.map_eq_cons_iff.1 hp;obtain⟨B,rfl,hB⟩:=List.map_eq_singleton_iff.1 hq;exact⟨A,B,rfl,hA,hB⟩
   have hd:=hDig A (by simp);have hr:=hRead A (by simp);have hd2:=hDig B (by simp);have hr2:=hRead B (by simp);rw[hA]at hd hr;rw[hB]at hd2 hr2;have l1:¬(((List.length [A,B]:Nat):Int)>2):=by simp
   have l2:(0:Int)<((List.length [A,B]:Nat):Int):=by simp
   have l3:(((List.length [A,B]:Nat):Int)==1)=false:=rfl;have l4:(1:Int)<((List.length [A,B]:Nat):Int):=by simp
   simp only[l1,l2,l3,l4,decide_true,decide_false,if_true,if_false,Bool.false_eq_true,List.getD_cons_zero,List.getD_cons_succ];rw[hd,Option.bind_some];dsimp only;cases hok:okN c.1
   ·rw[if_pos (show(!false)=true by rfl),if_neg (fun q=>by cases q.1)]
   ·rw[if_neg (show ¬((!true)=true) by decide),hr hok,Option.bind_some];dsimp only;have la:=nd_len200 (B:=B10) (by decide) (okN_lt hok);have hrest:∀(m:Bool),¬(m=true/\dv c.1=0)->(Option.bind (S.a0y (B,())) (fun(w0:(Bool×Unit))=>(if((!w0.1)=true)then(some ((rp B10 noQ.1,noQ.2),()))
 else(Option.bind (S.a0r (B,())) (fun(w1:((List Int)×Unit))=>(Option.bind (S.a0m (w1.1,(((1:Int)::([]:List Int)),()))) (fun(w2:(Int×Unit))=>(if((decide (w2.1<=(0:Int)))=true)then(some ((rp B10 noQ.1,noQ.2),()))
 else(Option.bind (S.s_l01Gcd (nd B10 (dv c.1),(w1.1,()))) (fun(w3:((List Int)×Unit))=>(Option.bind (S.a0m (w3.1,(((1:Int)::([]:List Int)),()))) (fun(w4:(Int×Unit))=>(if((w4.1 != (0:Int))=true)then(some ((rp B10 noQ.1,noQ.2),()))
 else(some (((m,(nd B10 (dv c.1),w1.1)),true),())))))))))))))))=some ((rp B10 (if okN c.2.1=true/\1<dv c.2.1/\Nat.gcd (dv c.1) (dv c.2.1)=1 then((m,(dv c.1,dv c.2.1)),true)else noQ).1,(if okN c.2.1=true/\1<dv c.2.1/\Nat.gcd (dv c.1) (dv c.2.1)=1 then((m,(dv c.1,dv c.2.1)),true)else noQ).2),()):=by
     intro m hm;rw[hd2,Option.bind_some];dsimp only;cases hb:okN c.2.1
     ·have hx:¬((false:Bool)=true/\1<dv c.2.1/\Nat.gcd (dv c.1) (dv c.2.1)=1):=fun q=>by cases q.1
      rw[if_pos (show(!false)=true by rfl),if_neg hx]
     ·have lb:=nd_len200 (B:=B10) (by decide) (okN_lt hb);rw[if_neg (show ¬((!true)=true) by decide),hr2 hb,Option.bind_some];dsimp only;have e1:S.a0m (nd B10 (dv c.2.1),([1],()))=some (cmpN (dv c.2.1) 1,()):=by
       unfold S.a0m;dsimp only;rw[if_pos ⟨a0j a0d _,canon_one a0d,by omega⟩,a0i a0d,dval_one]
      have e2:S.s_l01Gcd (nd B10 (dv c.1),(nd B10 (dv c.2.1),()))=some (nd B10 (Nat.gcd (dv c.1) (dv c.2.1)),()):=by
       unfold S.s_l01Gcd;dsimp only;rw[if_pos ⟨a0j a0d _,a0j a0d _,by omega,by omega⟩,a0i a0d,a0i a0d]
      rw[e1,Option.bind_some];dsimp only
      by_cases h1:1<dv c.2.1
      ·have hcm:¬(cmpN (dv c.2.1) 1<=0):=by
        have:=(cmpN_gt (a:=dv c.2.1) (b:=1)).2 h1;omega
       have lg:(nd B10 (Nat.gcd (dv c.1) (dv c.2.1))).length<=200:=Nat.le_trans (nd_shorter' a0d (Nat.le_of_dvd (by omega) (Nat.gcd_dvd_right _ _))) lb;have e3:S.a0m (nd B10 (Nat.gcd (dv c.1) (dv c.2.1)),([1],()))=some (cmpN (Nat.gcd (dv c.1) (dv c.2.1)) 1,()):=by
        unfold S.a0m;dsimp only;rw[if_pos ⟨a0j a0d _,canon_one a0d,by omega⟩,a0i a0d,dval_one]
       rw[if_neg (by simpa using hcm),e2,Option.bind_some];dsimp only;rw[e3,Option.bind_some];dsimp only
       by_cases hg:Nat.gcd (dv c.1) (dv c.2.1)=1
       ·rw[if_neg (by simpa using cmpN_zero.2 hg),if_pos ⟨rfl,h1,hg⟩];rfl
       ·rw[if_pos (by simpa using fun q=>hg (cmpN_zero.1 q)),if_neg (fun q=>hg q.2.2)]
      ·have hcm:cmpN (dv c.2.1) 1<=0:=by
        have h2:¬(cmpN (dv c.2.1) 1>0):=fun q=>h1 ((cmpN_gt (a:=dv c.2.1) (b:=1)).1 q)
        omega
       rw[if_pos (decide_eq_true hcm),if_neg (fun q=>h1 q.2.1)]
    have hm:¬((false:Bool)=true/\dv c.1=0):=fun q=>by cases q.1
    rw[if_pos ⟨rfl,fun q=>q.1⟩];exact hrest false hm
  ·
   rw[hf2,if_pos rfl]at hp;have hl:ps.length=2+(pieces 47 (cutP 47 c.2.1).2.1).length:=by
    have:=congrArg List.length hp;simp at this;omega
   have hl2:(pieces 47 (cutP 47 c.2.1).2.1).length≠0:=fun q=>pieces_ne 47 _ (List.eq_nil_of_length_eq_zero q)
   have l1:((ps.length:Nat):Int)>2:=by omega
   have hx:¬(okN c.2.1=true/\1<dv c.2.1/\Nat.gcd (dv c.1) (dv c.2.1)=1):=fun q=>by
    have:=cutP_allD (okN_allD q.1).1;rw[hf2]at this;cases this
   rw[if_pos (decide_eq_true l1),if_pos rfl,if_neg hx];split<;>rfl
def S.s_l01Parse (x:(ByteArray×Unit)):(Option ((RB×Bool)×Unit)):=if x.1.size<=1000000 then some ((rp B10 (rdRat x.1.data.toList).1,(rdRat x.1.data.toList).2),())else none
theorem S.s_l01Parse_ok (x r) (h:S.s_l01Parse x=some r):∃k,P.s_l01Parse k x=some r:=by
 obtain⟨s,u⟩:=x;unfold S.s_l01Parse at h;dsimp only at h;split at h
 case isFalse=>cases h
 rename_i hsz;refine⟨0,?_⟩;rw[<-h];unfold P.s_l01Parse;dsimp only;have hs:s.size=s.data.toList.length:=by rw[Array.length_toList];rfl
 unfold rdRat
 by_cases h0:s.data.toList=[]
 ·have l1:¬((s.size:Int)>0):=by rw[hs,h0];simp
  rw[if_neg (by simpa using l1),h0,if_neg (by simp),<-h0];exact pp_plain s hsz
 ·have hpos:0<s.data.toList.length:=List.length_pos_iff.2 h0;have l1:(s.size:Int)>0:=by omega
  have l2:(0:Int)<(s.size:Int):=by omega
  have l3:(0:Int)<=(s.size:Int):=by omega
  have l4:(1:Int)<=(s.size:Int):=by omega
  have hb:byteAt s 0=(s.data.toList[0].toNat:Int):=congrArg (fun c:UInt8=>(c.toNat:Int)) (a0o s.data.toList 0 0 hpos);have hh:s.data.toList.head? =some s.data.toList[0]:=by
   generalize s.data.toList=l at*;cases l with
   |nil=>simp at h0
   |cons c r=>rfl
  rw[if_pos (decide_eq_true l1),if_pos (decide_eq_true l2),hh,Int.toNat_natCast]
  by_cases c1:s.data.toList[0]=45
  ·have hn:(byteAt s 0==45)=true:=by
    rw[hb,c1];rfl
   have hx:(ByteArray.extract s 1 s.size).data.toList=s.data.toList.tail:=by
    rw[ext_list,List.take_of_length_le (by omega),List.drop_one]
   have hxs:(ByteArray.extract s 1 s.size).size<=1000000:=by
    have:(ByteArray.extract s 1 s.size).size=(ByteArray.extract s 1 s.size).data.toList.length:=by rw[Array.length_toList];rfl
    rw[this,hx];simp;omega
   rw[hn,if_pos rfl,if_pos (decide_eq_true l3),if_pos (decide_eq_true (Int.le_refl _)),if_pos (decide_eq_true l4),if_pos (by rw[c1])];have:=pp_sign (ByteArray.extract s 1 s.size) true hxs;rw[hx]at this;exact this
  ·have hn:(byteAt s 0==45)=false:=by
    rw[hb,beq_eq_false_iff_ne];intro q;apply c1;apply UInt8.toNat_inj.1;show _=45;omega
   rw[hn,if_neg (show ¬((false:Bool)=true) by decide),if_neg (by rw[Option.some.injEq];exact c1)];exact pp_sign s false hsz
abbrev P.s_l01List_b0 (x1:Int×Int×List ByteArray×List RB×Unit) (g2:Int×Int×List ByteArray×List RB×Unit->Option ((List RB×Bool)×Unit)):Option ((List RB×Bool)×Unit):=
 if decide (x1.1<x1.2.1)then if decide (0<=x1.1)then if decide (x1.1<(x1.2.2.1.length:Int))then(S.s_l01Parse (x1.2.2.1.getD x1.1.toNat (bs []),())).bind fun y3=>if !y3.1.2 then some (([],false),())else if decide (((x1.2.2.2.1.length+(List.length [(y3.1.1.1,y3.1.1.2.1,y3.1.1.2.2)]))*56)<=140737488355328)then g2 (wrap .i64 (x1.1+1),x1.2.1,x1.2.2.1,x1.2.2.2.1++[(y3.1.1.1,y3.1.1.2.1,y3.1.1.2.2)],())else none else none else none else some ((x1.2.2.2.1,true),())
def P.s_l01List (k:Nat) (x:List ByteArray×Unit):Option ((List RB×Bool)×Unit):=
 if decide ((x.1.length:Int)>300)then some (([],false),())else loopP P.s_l01List_b0 k (0,(x.1.length:Int),x.1,[],())
open Classical in
def S.s_l01List (x:((List ByteArray)×Unit)):(Option (((List RB)×Bool)×Unit)):=if okT x.1=true then some (((rdAll x.1).1.map (rp B10),(rdAll x.1).2),())else none
theorem s_l01List_read (s:ByteArray) (h:s.size<=1000000):S.s_l01Parse (s,())=some ((rp B10 (rdRat s.data.toList).1,(rdRat s.data.toList).2),()):=by
 unfold S.s_l01Parse;exact if_pos (by dsimp only;omega)
theorem S.s_l01List_ok (x r) (h:S.s_l01List x=some r):∃k,P.s_l01List k x=some r:=by
 obtain⟨ls,u⟩:=x;unfold S.s_l01List at h;dsimp only at h;split at h
 case isFalse=>cases h
 rename_i hc;cases h;refine⟨ls.length+1,?_⟩;unfold P.s_l01List rdAll;dsimp only
 by_cases hl:(ls.length:Int)>300
 ·rw[if_pos (decide_eq_true hl),if_neg (show ¬(ls.length<=300/\(ls.all fun s=>(rdRat s.data.toList).2)=true)from fun z=>by omega)];rfl
 rw[if_neg (by simpa using hl)];have key:=a0g (k:=ls.length+1) (b:=P.s_l01List_b0) (n:=ls.length) (st:=fun i=>((i:Int),(ls.length:Int),ls,(ls.take i).map (fun s=>rp B10 (rdRat s.data.toList).1),())) (F:=fun i=>some (if((ls.drop i).all fun s=>(rdRat s.data.toList).2)=true then(ls.map (fun s=>rp B10 (rdRat s.data.toList).1),true)else([],false),())) (fun i g hi hg=>by
  unfold P.s_l01List_b0;dsimp only at hg ⊢;have e1:(i:Int)<(ls.length:Int):=by omega
  have e2:(0:Int)<=(i:Int):=by omega
  simp only[e1,e2,decide_true,if_true];rw[a0o ls i _ hi,s_l01List_read _ (okT_get hc hi),Option.bind_some,List.drop_eq_getElem_cons hi,List.all_cons];dsimp only;cases hf:(rdRat ls[i].data.toList).2
  ·rw[if_pos (by rfl),if_neg (by simp)]
  ·rw[if_neg (by simp),wr (by omega) (by omega),Bool.true_and,<-hg];have e3:((List.map (fun s:ByteArray=>rp B10 (rdRat s.data.toList).1) (ls.take i)).length+1)*56<=140737488355328:=by
    rw[List.length_map,List.length_take];omega
   simp only[List.length_cons,List.length_nil,Nat.zero_add];rw[if_pos (decide_eq_true e3),List.take_add_one,List.getElem?_eq_getElem hi,Option.toList_some,List.map_append];rfl) (fun g=>by
  unfold P.s_l01List_b0;dsimp only;rw[if_neg (by simp),List.take_length,List.drop_length];rfl) (by omega)
 refine key.trans ?_;rw[List.drop_zero]
 by_cases ha:(ls.all fun s=>(rdRat s.data.toList).2)=true
 ·rw[if_pos ha,if_pos (show ls.length<=300/\(ls.all fun s=>(rdRat s.data.toList).2)=true from⟨by omega,ha⟩),List.map_map];rfl
 ·rw[if_neg ha,if_neg (fun z=>ha z.2)];rfl
abbrev P.s_l01Total_b1 (x2:Int×Int×RB×List RB×RB×Unit) (g3:Int×Int×RB×List RB×RB×Unit->Option (RB×Unit)):Option (RB×Unit):=
 if decide (x2.1<x2.2.1)then if decide (0<=x2.1)then if decide (x2.1<(x2.2.2.2.1.length:Int))then(S.s_l01Sum ((x2.2.2.1.1,x2.2.2.1.2.1,x2.2.2.1.2.2),((x2.2.2.2.1.getD x2.1.toNat (false,[],[])).1,(x2.2.2.2.1.getD x2.1.toNat (false,[],[])).2.1,(x2.2.2.2.1.getD x2.1.toNat (false,[],[])).2.2),())).bind fun y4=>g3 (wrap .i64 (x2.1+1),x2.2.1,(y4.1.1,y4.1.2.1,y4.1.2.2),x2.2.2.2.1,(x2.2.2.2.2.1.1,x2.2.2.2.2.1.2.1,x2.2.2.2.2.1.2.2),())else none else none else some ((x2.2.2.1.1,x2.2.2.1.2.1,x2.2.2.1.2.2),())
def P.s_l01Total (k:Nat) (x:List RB×Unit):Option (RB×Unit):=
 (S.s_l01None ()).bind fun y0=>loopP P.s_l01Total_b1 k (0,(x.1.length:Int),(y0.1.1,y0.1.2.1,y0.1.2.2),x.1,(false,[],[]),())
open Classical in
def S.s_l01Total (x:((List RB)×Unit)):(Option (RB×Unit)):=if goodS B10 x.1 then some (rp B10 (sumQ (x.1.map (rv B10))),())else none
theorem s_l01Total_add (a b:Q3) (ha:lowb B10 40000000 (rp B10 a)=true) (hb:lowb B10 40000000 (rp B10 b)=true):S.s_l01Sum (rp B10 a,(rp B10 b,()))=some (rp B10 (addQ a b),()):=by
 unfold S.s_l01Sum;dsimp only;rw[if_pos ⟨ha,hb⟩,rv_rp a0d,rv_rp a0d]
theorem S.s_l01Total_ok (x r) (h:S.s_l01Total x=some r):∃k,P.s_l01Total k x=some r:=by
 obtain⟨xs,u⟩:=x;unfold S.s_l01Total at h;dsimp only at h;split at h
 case isFalse=>cases h
 rename_i hc;obtain⟨qs,rfl,hlen,hq,hg⟩:=hc;cases h;refine⟨qs.length+1,?_⟩;unfold P.s_l01Total;have hz:S.s_l01None ()=some (rp B10 a1f,()):=by rfl
 dsimp only;rw[hz,Option.bind_some,map_rv a0d,List.length_map];have key:=a0g (k:=qs.length+1) (b:=P.s_l01Total_b1) (n:=qs.length) (st:=fun i=>((i:Int),(qs.length:Int),rp B10 (sumQ (qs.take i)),qs.map (rp B10),(false,(([]:List Int),([]:List Int))),())) (F:=fun i=>some (rp B10 (sumQ qs),())) (fun i g hi hg'=>by
  unfold P.s_l01Total_b1;dsimp only at hg' ⊢;have e1:(i:Int)<(qs.length:Int):=by omega
  have e2:(0:Int)<=(i:Int):=by omega
  have e3:(i:Int)<((qs.map (rp B10)).length:Int):=by rw[List.length_map];omega
  rw[if_pos (decide_eq_true e1),if_pos (decide_eq_true e2),if_pos (decide_eq_true e3),a0o (qs.map (rp B10)) i _ (by rw[List.length_map];exact hi),List.getElem_map];have ea:=s_l01Total_add (sumQ (qs.take i)) qs[i] (lowb_rp9 (by decide) (hg i).1 (hg i).2 (by decide)) (lowb_rp9 (by decide) (hq _ (List.getElem_mem hi)).1 (hq _ (List.getElem_mem hi)).2 (by decide));rw[sumQ_take hi]at ea;show Option.bind (S.s_l01Sum (rp B10 (sumQ (qs.take i)),(rp B10 qs[i],()))) _=_;rw[ea,Option.bind_some,wr (by omega) (by omega)];exact hg') (fun g=>by
  unfold P.s_l01Total_b1;dsimp only;rw[if_neg (by simp),List.take_length]) (by omega)
 exact key
abbrev P.s_l01Positive_b0 (x1:Int×Int×List RB×Unit) (g2:Int×Int×List RB×Unit->Option (Bool×Unit)):Option (Bool×Unit):=
 if decide (x1.1<x1.2.1)then if decide (0<=x1.1)then if decide (x1.1<(x1.2.2.1.length:Int))then if(x1.2.2.1.getD x1.1.toNat (false,[],[])).1 then some (false,())else g2 (wrap .i64 (x1.1+1),x1.2.1,x1.2.2.1,())else none else none else some (true,())
def P.s_l01Positive (k:Nat) (x:List RB×Unit):Option (Bool×Unit):=
 loopP P.s_l01Positive_b0 k (0,(x.1.length:Int),x.1,())
def S.s_l01Positive (x:((List RB)×Unit)):(Option (Bool×Unit)):=if x.1.length<=1000000000 then some (!(x.1.any fun r=>r.1),())else none
theorem S.s_l01Positive_ok (x r) (h:S.s_l01Positive x=some r):∃k,P.s_l01Positive k x=some r:=by
 obtain⟨xs,u⟩:=x;unfold S.s_l01Positive at h;dsimp only at h;split at h
 case isFalse=>cases h
 rename_i hc;cases h;refine⟨xs.length+1,?_⟩;unfold P.s_l01Positive;have key:=a0g (k:=xs.length+1) (b:=P.s_l01Positive_b0) (n:=xs.length) (st:=fun i=>((i:Int),(xs.length:Int),xs,())) (F:=fun i=>some (!((xs.drop i).any fun r=>r.1),())) (fun i g hi hg=>by
  unfold P.s_l01Positive_b0;dsimp only at hg ⊢;have e1:(i:Int)<(xs.length:Int):=by omega
  have e2:(0:Int)<=(i:Int):=by omega
  rw[if_pos (decide_eq_true e1),if_pos (decide_eq_true e2),if_pos (decide_eq_true e1),a0o xs i _ hi,List.drop_eq_getElem_cons hi,List.any_cons];cases hf:xs[i].1
  ·rw[if_neg (by decide),wr (by omega) (by omega),Bool.false_or];exact hg
  ·rw[if_pos rfl];rfl) (fun g=>by
  unfold P.s_l01Positive_b0;dsimp only;rw[if_neg (by simp),List.drop_length];rfl) (by omega)
 exact key
def P.s_l01Weights (k:Nat) (x:List RB×Unit):Option (Bool×Unit):=
 (S.s_l01Positive (x.1,())).bind fun y0=>if y0.1 then(S.s_l01Total (x.1,())).bind fun y1=>(S.s_l01One ()).bind fun y2=>(S.s_l01Equal ((y1.1.1,y1.1.2.1,y1.1.2.2),(y2.1.1,y2.1.2.1,y2.1.2.2),())).bind fun y3=>some (y3.1,())else some (false,())
open Classical in
def S.s_l01Weights (x:((List RB)×Unit)):(Option (Bool×Unit)):=if goodL B10 x.1 then some (isW (x.1.map (rv B10)),())else none
theorem S.s_l01Weights_ok (x r) (h:S.s_l01Weights x=some r):∃k,P.s_l01Weights k x=some r:=by
 obtain⟨xs,u⟩:=x;unfold S.s_l01Weights at h;dsimp only at h;split at h
 case isFalse=>cases h
 rename_i hc;obtain⟨qs,n,rfl,hg⟩:=hc;cases h;refine⟨0,?_⟩;rw[map_rv a0d];unfold P.s_l01Weights S.s_l01Positive;dsimp only;have hlen:=good_len hg;rw[if_pos (by rw[List.length_map];omega),Option.bind_some,any_rp];dsimp only;unfold isW;have es:S.s_l01Total (qs.map (rp B10),())=some (rp B10 (sumQ qs),()):=by
  unfold S.s_l01Total;dsimp only;rw[if_pos (goodL_S ⟨qs,n,rfl,hg⟩),map_rv a0d]
 have h1:S.s_l01One ()=some (rp B10 oneQ,()):=by rfl
 have eo:S.s_l01Equal (rp B10 (sumQ qs),(rp B10 oneQ,()))=some (isOneQ (sumQ qs),()):=by
  unfold S.s_l01Equal;dsimp only;rw[if_pos ⟨good_rok (by decide) hg,below_rok (B:=B10) (by decide) (oneQ_below (by decide))⟩,rv_rp a0d,rv_rp a0d];unfold isOneQ oneQ;dsimp only;rw[Nat.mul_one,Nat.one_mul]
 cases hm:(qs.any fun r=>r.1)
 ·rw[if_pos (show(!false)=true by rfl),es,Option.bind_some,h1,Option.bind_some];show Option.bind (S.s_l01Equal (rp B10 (sumQ qs),(rp B10 oneQ,()))) _=_;rw[eo,Option.bind_some];rfl
 ·rfl
abbrev s_l03Parse.A:=Int×Int×List (List ByteArray)×Int×List (List RB)×List (List RB)×Unit
abbrev s_l03Parse.B:=Option ((List (List RB)×Bool)×Unit)
abbrev P.s_l03Parse_b0 (x1:s_l03Parse.A) (g2:s_l03Parse.A->s_l03Parse.B):s_l03Parse.B:=
 if decide (x1.1<x1.2.1)then if decide (0<=x1.1)then if decide (x1.1<(x1.2.2.1.length:Int))then if(List.length (x1.2.2.1.getD x1.1.toNat []):Int) != x1.2.2.2.1 then some (([],false),())else if decide (0<=x1.1)then if decide (x1.1<(x1.2.2.1.length:Int))then(S.s_l01List (x1.2.2.1.getD x1.1.toNat [],())).bind fun y3=>if !y3.1.2 then some (([],false),())else(S.s_l01Weights (y3.1.1,())).bind fun y4=>if !y4.1 then some (([],false),())else if decide (((x1.2.2.2.2.2.1.length+(List.length [y3.1.1]))*24)<=140737488355328)then g2 (wrap .i64 (x1.1+1),x1.2.1,x1.2.2.1,x1.2.2.2.1,x1.2.2.2.2.1,x1.2.2.2.2.2.1++[y3.1.1],())else none else none else none else none else none else some ((x1.2.2.2.2.2.1,true),())
def P.s_l03Parse (k:Nat) (x:List (List ByteArray)×Unit):s_l03Parse.B:=
 if decide ((x.1.length:Int)<1)then some (([],false),())else if decide ((x.1.length:Int)>12)then some (([],false),())else loopP P.s_l03Parse_b0 k (0,(x.1.length:Int),x.1,(x.1.length:Int),[],[],())
def S.s_l03Parse (x:((List (List ByteArray))×Unit)):(Option (((List (List RB))×Bool)×Unit)):=if x.1.all okT=true then some (((chQ x.1).1.map (fun r=>r.map (rp B10)),(chQ x.1).2),())else none
theorem S.s_l03Parse_ok (x r) (h:S.s_l03Parse x=some r):∃k,P.s_l03Parse k x=some r:=by
 obtain⟨rows,u⟩:=x;unfold S.s_l03Parse at h;dsimp only at h;split at h
 case isFalse=>cases h
 rename_i hc;cases h;refine⟨rows.length+1,?_⟩;unfold P.s_l03Parse chQ;dsimp only
 by_cases h1:1<=rows.length
 case neg=>
  rw[if_pos (decide_eq_true (show(rows.length:Int)<1 by omega)),decide_eq_false h1];rfl
 rw[if_neg (by simpa using(show ¬(rows.length:Int)<1 by omega)),decide_eq_true h1]
 by_cases h2:rows.length<=12
 case neg=>
  rw[if_pos (decide_eq_true (show(rows.length:Int)>12 by omega)),decide_eq_false h2];rfl
 rw[if_neg (by simpa using(show ¬(rows.length:Int)>12 by omega)),decide_eq_true h2];simp only[Bool.true_and];have key:=a0g (k:=rows.length+1) (b:=P.s_l03Parse_b0) (n:=rows.length) (st:=fun i=>((i:Int),(rows.length:Int),rows,(rows.length:Int),([]:List (List (Bool×(List Int×List Int)))),(rows.take i).map (fun r=>(rdAll r).1.map (rp B10)),())) (F:=fun i=>some (if((rows.drop i).all fun r=>decide (r.length=rows.length)&&(wtAll r).2)=true then(rows.map (fun r=>(rdAll r).1.map (rp B10)),true)else([],false),())) (fun i g hi hg'=>by
  have e1:(i:Int)<(rows.length:Int):=by omega
  have e2:(0:Int)<=(i:Int):=by omega
  have hr:okT rows[i]=true:=List.all_eq_true.1 hc _ (List.getElem_mem hi);have e4:(((rows.take i).map (fun r=>(rdAll r).1.map (rp B10))).length+1)*24<=140737488355328:=by
   rw[List.length_map,List.length_take];omega
  unfold P.s_l03Parse_b0;dsimp only at hg' ⊢;simp only[e1,e2,decide_true,if_true];rw[a0o rows i _ hi,List.drop_eq_getElem_cons hi,List.all_cons]
  by_cases hl:rows[i].length=rows.length
  case neg=>
   rw[if_pos (by simp;omega),decide_eq_false hl,Bool.false_and,Bool.false_and,if_neg (by decide)]
  rw[if_neg (by simp;omega),decide_eq_true hl,Bool.true_and,wtAll_snd];have ew:S.s_l01List (rows[i],())=some (((rdAll rows[i]).1.map (rp B10),(rdAll rows[i]).2),()):=by
   unfold S.s_l01List;exact if_pos hr
  rw[ew,Option.bind_some];dsimp only;cases w1:(rdAll rows[i]).2
  ·rw[if_pos (by decide),Bool.false_and,Bool.false_and,if_neg (by decide)]
  have eW:S.s_l01Weights ((rdAll rows[i]).1.map (rp B10),())=some (isW (rdAll rows[i]).1,()):=by
   unfold S.s_l01Weights;dsimp only;rw[if_pos (rdAll_goodL w1),map_rv a0d]
  rw[if_neg (by decide),eW,Option.bind_some,Bool.true_and];dsimp only;cases hw:isW (rdAll rows[i]).1
  ·rw[if_pos (by decide),Bool.false_and,if_neg (by decide)]
  rw[if_neg (by decide),Bool.true_and];simp only[List.length_cons,List.length_nil,Nat.zero_add];rw[if_pos (decide_eq_true e4),wr (by omega) (by omega),<-hg',List.take_add_one,List.getElem?_eq_getElem hi,Option.toList_some,List.map_append];rfl) (fun g=>by
  unfold P.s_l03Parse_b0;dsimp only;rw[if_neg (by simp),List.take_length,List.drop_length];rfl) (by omega)
 rw[List.drop_zero]at key;refine Eq.trans key ?_
 by_cases ha:(rows.all fun r=>decide (r.length=rows.length)&&(wtAll r).2)=true
 ·rw[if_pos ha,if_pos ha,List.map_map];rfl
 ·rw[if_neg ha,if_neg ha];rfl
def P.s_l00In (k:Nat) (x:Int×Int×Int×Unit):Option (Bool×Unit):=
 if decide (x.1>=x.2.1)then some (decide (x.1<=x.2.2.1),())else some (false,())
def S.s_l00In (x:(Int×(Int×(Int×Unit)))):(Option (Bool×Unit)):=P.s_l00In 0 x
theorem S.s_l00In_ok (x r) (h:S.s_l00In x=some r):∃k,P.s_l00In k x=some r:=⟨0,h⟩
def P.s_l03State (k:Nat) (x:List (List RB)×Int×Unit):Option (Bool×Unit):=
 (S.s_l00In (x.2.1,0,wrap .i64 ((x.1.length:Int) - 1),())).bind fun y0=>some (y0.1,())
def S.s_l03State (x:((List (List RB))×(Int×Unit))):(Option (Bool×Unit)):=P.s_l03State 0 x
theorem S.s_l03State_ok (x r) (h:S.s_l03State x=some r):∃k,P.s_l03State k x=some r:=⟨0,h⟩
abbrev P.s_l00Has_b0 (x1:Int×List Int×Int×Unit) (g2:Int×List Int×Int×Unit->Option (Bool×Unit)):Option (Bool×Unit):=
 if decide (x1.1<(x1.2.1.length:Int))then if decide (0<=x1.1)then if decide (x1.1<(x1.2.1.length:Int))then if(x1.2.1.getD x1.1.toNat 0)==x1.2.2.1 then some (true,())else g2 (wrap .i64 (x1.1+1),x1.2.1,x1.2.2.1,())else none else none else some (false,())
def P.s_l00Has (k:Nat) (x:List Int×Int×Unit):Option (Bool×Unit):=
 loopP P.s_l00Has_b0 k (0,x.1,x.2.1,())
def S.s_l00Has (x:((List Int)×(Int×Unit))):(Option (Bool×Unit)):=if x.1.length<=1000000 then some (decide (x.2.1∈x.1),())else none
theorem S.s_l00Has_ok (x r) (h:S.s_l00Has x=some r):∃k,P.s_l00Has k x=some r:=by
 obtain⟨xs,n,u⟩:=x;unfold S.s_l00Has at h;dsimp only at h;split at h
 case isFalse=>cases h
 rename_i hc;cases h;refine⟨xs.length+1,?_⟩;unfold P.s_l00Has;dsimp only;have key:=a0g (k:=xs.length+1) (b:=P.s_l00Has_b0) (n:=xs.length) (st:=fun i=>((i:Int),xs,n,())) (F:=fun i=>some (decide (n∈xs.drop i),())) (fun i g hi hg=>by
  unfold P.s_l00Has_b0;dsimp only at hg ⊢;have e1:(i:Int)<(xs.length:Int):=by omega
  have e2:(0:Int)<=(i:Int):=by omega
  simp only[e1,e2,decide_true,if_true];rw[a0o xs i _ hi,List.drop_eq_getElem_cons hi,wr (by omega) (by omega)]
  by_cases he:xs[i]=n
  ·rw[if_pos (by simp [he]),decide_eq_true (by rw[he];exact List.mem_cons_self ..)]
  ·rw[if_neg (by simp [he])];refine Eq.trans hg ?_;congr 2;rw[decide_eq_decide,List.mem_cons];exact⟨Or.inr,fun h=>h.resolve_left fun e=>he e.symm⟩) (fun g=>by
  unfold P.s_l00Has_b0;dsimp only;rw[if_neg (by simp),List.drop_length];rfl) (by omega)
 rw[List.drop_zero]at key;exact key
abbrev P.s_l00Put_b0 (x1:Int×List Int×Bool×Int×List Int×Unit) (g2:Int×List Int×Bool×Int×List Int×Unit->Option (List Int×Unit)):Option (List Int×Unit):=
 (fun(a d:Int) (b e:List Int) (c:Bool)=>if decide (a<(b.length:Int))then if !c then if decide (0<=a)then if decide (a<(b.length:Int))then if decide ((b.getD a.toNat 0)>=d)then if decide (0<=a)then if decide (a<(b.length:Int))then if decide ((b.getD a.toNat 0)>d)then if decide (((e.length+(List.length [d]))*8)<=140737488355328)then if decide (0<=a)then if decide (a<(b.length:Int))then if decide ((((List.length (e++[d]))+(List.length [b.getD a.toNat 0]))*8)<=140737488355328)then g2 (wrap .i64 (a+1),b,true,d,(e++[d])++[b.getD a.toNat 0],())else none else none else none else none else if decide (0<=a)then if decide (a<(b.length:Int))then if decide (((e.length+(List.length [b.getD a.toNat 0]))*8)<=140737488355328)then g2 (wrap .i64 (a+1),b,true,d,e++[b.getD a.toNat 0],())else none else none else none else none else none else if decide (0<=a)then if decide (a<(b.length:Int))then if decide (((e.length+(List.length [b.getD a.toNat 0]))*8)<=140737488355328)then g2 (wrap .i64 (a+1),b,c,d,e++[b.getD a.toNat 0],())else none else none else none else none else none else if decide (0<=a)then if decide (a<(b.length:Int))then if decide (((e.length+(List.length [b.getD a.toNat 0]))*8)<=140737488355328)then g2 (wrap .i64 (a+1),b,c,d,e++[b.getD a.toNat 0],())else none else none else none else if !c then if decide (((e.length+(List.length [d]))*8)<=140737488355328)then some (e++[d],())else none else some (e,())) x1.1 x1.2.2.2.1 x1.2.1 x1.2.2.2.2.1 x1.2.2.1
def P.s_l00Put (k:Nat) (x:List Int×Int×Unit):Option (List Int×Unit):=
 loopP P.s_l00Put_b0 k (0,x.1,false,x.2.1,[],())
def S.s_l00Put (x:((List Int)×(Int×Unit))):(Option ((List Int)×Unit)):=if x.1.length<=1000000 then some (putL x.1 x.2.1,())else none
theorem S.s_l00Put_ok (x r) (h:S.s_l00Put x=some r):∃k,P.s_l00Put k x=some r:=by
 obtain⟨xs,n,u⟩:=x;unfold S.s_l00Put at h;dsimp only at h;split at h
 case isFalse=>cases h
 rename_i hc;cases h;refine⟨xs.length+1,?_⟩;unfold P.s_l00Put;dsimp only;have all:∀m i k out,i+m=xs.length->m<k->out.length<=i+1->loopP P.s_l00Put_b0 k ((i:Int),xs,true,n,out,())=some (out++xs.drop i,()):=by
  intro m
  induction m with
  |zero=>
   intro i k out hi hk _;cases k with
   |zero=>omega
   |succ k=>
    rw[a0k];unfold P.s_l00Put_b0;dsimp only;rw[if_neg (by simp;omega),List.drop_of_length_le (by omega),List.append_nil];rfl
  |succ m ih=>
   intro i k out hi hk ho;cases k with
   |zero=>omega
   |succ k=>
    have hi':i<xs.length:=by omega
    have e1:(i:Int)<(xs.length:Int):=by omega
    have e2:(0:Int)<=(i:Int):=by omega
    have e3:(out.length+1)*8<=140737488355328:=by omega
    have:=ih (i+1) k (out++[xs[i]]) (by omega) (by omega) (by simp;omega);rw[a0k];generalize loopP P.s_l00Put_b0 k=G at this ⊢;unfold P.s_l00Put_b0;dsimp only;simp only[e1,e2,e3,decide_true,if_true,Bool.not_true,Bool.false_eq_true,if_false,List.length_cons,List.length_nil,Nat.zero_add];rw[a0o xs i _ hi',wr (by omega) (by omega)];rw[List.drop_eq_getElem_cons hi'];rw[List.append_assoc]at this;exact this
 have key:∀m i k,i+m=xs.length->m<k->loopP P.s_l00Put_b0 k ((i:Int),xs,false,n,xs.take i,())=some (xs.take i++putL (xs.drop i) n,()):=by
  intro m
  induction m with
  |zero=>
   intro i k hi hk;cases k with
   |zero=>omega
   |succ k=>
    have e3:((xs.take i).length+1)*8<=140737488355328:=by rw[List.length_take];omega
    rw[a0k];unfold P.s_l00Put_b0;dsimp only;rw[if_neg (by simp;omega),if_pos (show(!false)=true from rfl),List.drop_of_length_le (by omega)];simp only[List.length_cons,List.length_nil,Nat.zero_add,e3,decide_true,if_true];rfl
  |succ m ih=>
   intro i k hi hk;cases k with
   |zero=>omega
   |succ k=>
    have hi':i<xs.length:=by omega
    have e1:(i:Int)<(xs.length:Int):=by omega
    have e2:(0:Int)<=(i:Int):=by omega
    have hl:(xs.take i).length=i:=by rw[List.length_take];omega
    have e3:(i+1)*8<=140737488355328:=by omega
    have e4:(i+1+1)*8<=140737488355328:=by omega
    have t1:=all m (i+1) k ((xs.take i++[n])++[xs[i]]) (by omega) (by omega) (by simp;omega);have t2:=all m (i+1) k (xs.take i++[xs[i]]) (by omega) (by omega) (by simp;omega);have t3:=ih (i+1) k (by omega) (by omega);rw[a0k];generalize loopP P.s_l00Put_b0 k=G at t1 t2 t3 ⊢;unfold P.s_l00Put_b0;dsimp only;simp only[e1,e2,e3,e4,hl,decide_true,if_true,Bool.not_false,List.length_append,List.length_cons,List.length_nil,Nat.zero_add];rw[a0o xs i _ hi',wr (by omega) (by omega),List.drop_eq_getElem_cons hi',putL]
    by_cases h1:n<=xs[i]
    ·rw[if_pos (decide_eq_true h1),if_pos h1]
     by_cases h2:n<xs[i]
     ·rw[if_pos (decide_eq_true h2),if_pos h2];refine Eq.trans t1 ?_;simp
     ·rw[if_neg (by simpa using h2),if_neg h2];refine Eq.trans t2 ?_;simp
    ·rw[if_neg (by simpa using h1),if_neg h1];rw[<-List.take_append_getElem hi',List.append_assoc]at t3;exact t3
 have:=key xs.length 0 (xs.length+1) (by omega) (by omega);simpa using this
def P.s_l01Zero (k:Nat) (x:RB×Unit):Option (Bool×Unit):=
 some ((x.1.2.1.length:Int)==0,())
def S.s_l01Zero (x:(RB×Unit)):(Option (Bool×Unit)):=P.s_l01Zero 0 x
theorem S.s_l01Zero_ok (x r) (h:S.s_l01Zero x=some r):∃k,P.s_l01Zero k x=some r:=⟨0,h⟩
abbrev s_l03Reach.A:=Int×List Int×List (List RB)×List Int×Unit
abbrev s_l03Reach.B:=Option (List Int×Unit)
abbrev P.s_l03Reach_b3 (g2:s_l03Reach.A->s_l03Reach.B) (x4:Int×Int×List (List RB)×List Int×Int×List Int×Unit) (g5:Int×Int×List (List RB)×List Int×Int×List Int×Unit->s_l03Reach.B):s_l03Reach.B:=
 (fun(a b e:Int) (c:List (List RB)) (d f:List Int)=>if decide (a<b)then if decide (0<=e)then if decide (e<(d.length:Int))then if decide (0<=(d.getD (0+e.toNat) 0))then if decide ((d.getD (0+e.toNat) 0)<(c.length:Int))then if decide (0<=a)then if decide (a<(List.length (c.getD (Int.toNat (d.getD (0+e.toNat) 0)) []):Int))then(S.s_l01Zero (((List.getD (c.getD (Int.toNat (d.getD (0+e.toNat) 0)) []) a.toNat (false,[],[])).1,(List.getD (c.getD (Int.toNat (d.getD (0+e.toNat) 0)) []) a.toNat (false,[],[])).2.1,(List.getD (c.getD (Int.toNat (d.getD (0+e.toNat) 0)) []) a.toNat (false,[],[])).2.2),())).bind fun y6=>if !y6.1 then(S.s_l00Has (f,a,())).bind fun y7=>if !y7.1 then(S.s_l00Put (f,a,())).bind fun y8=>if decide (((d.length+(List.length [a]))*8)<=140737488355328)then g5 (wrap .i64 (a+1),b,c,d++[a],e,y8.1,())else none else g5 (wrap .i64 (a+1),b,c,d,e,f,())else g5 (wrap .i64 (a+1),b,c,d,e,f,())else none else none else none else none else none else none else g2 (wrap .i64 (e+1),d,c,f,())) x4.1 x4.2.1 x4.2.2.2.2.1 x4.2.2.1 x4.2.2.2.1 x4.2.2.2.2.2.1
abbrev P.s_l03Reach_b0 (k:Nat) (x1:s_l03Reach.A) (g2:s_l03Reach.A->s_l03Reach.B):s_l03Reach.B:=
 if decide (x1.1<(x1.2.1.length:Int))then loopP (P.s_l03Reach_b3 g2) k (0,(x1.2.2.1.length:Int),x1.2.2.1,x1.2.1,x1.1,x1.2.2.2.1,())else some (x1.2.2.2.1,())
def P.s_l03Reach (k:Nat) (x:List (List RB)×Int×Unit):s_l03Reach.B:=
 loopP (P.s_l03Reach_b0 k) k (0,[x.2.1],x.1,[x.2.1],())
theorem zero_rp (q:Q3):S.s_l01Zero (((rp B10 q).1,(rp B10 q).2.1,(rp B10 q).2.2),())=some (decide (q.2.1=0),()):=by
 unfold S.s_l01Zero P.s_l01Zero rp;dsimp only;congr 2;rw[Bool.eq_iff_iff,beq_iff_eq,decide_eq_true_iff,<-nd_zero_iff (B:=B10) (by decide),<-List.length_eq_zero_iff];omega
theorem reS_inner {M:List (List Q3)} (hM:isM M) {i:Nat} (hi:i<M.length) (pre:List Nat) {sn:List Bool} {td:List Nat} (hb:Bok M.length (sn,td)) (hm:pre.length+td.length+sn.count false<=1000000)
  (g) {K:Nat} (hK:M.length<K):
  loopP (P.s_l03Reach_b3 g) K ((0:Int),(M.length:Int),mp B10 M,zs (pre++i::td),(pre.length:Int),posF 0 sn,())=g (((pre.length+1:Nat):Int),zs (pre++i::(scanB (adj M i) M.length (sn,td)).2),mp B10 M,posF 0 (scanB (adj M i) M.length (sn,td)).1,()):=by
 have hrow:=isM_row hM hi;have hn:=hM.1;have key:=a0g (k:=K) (b:=P.s_l03Reach_b3 g) (n:=M.length) (st:=fun j=>((j:Int),(M.length:Int),mp B10 M,zs (pre++i::((List.range j).foldl (stepB (adj M i)) (sn,td)).2),(pre.length:Int),posF 0 ((List.range j).foldl (stepB (adj M i)) (sn,td)).1,())) (F:=fun _=>g (((pre.length+1:Nat):Int),zs (pre++i::(scanB (adj M i) M.length (sn,td)).2),mp B10 M,posF 0 (scanB (adj M i) M.length (sn,td)).1,())) (fun j g' hj hg=>by
  unfold P.s_l03Reach_b3;dsimp only at hg ⊢;obtain⟨b1,b2⟩:=foldB_ok (a:=adj M i) hb j (by omega);rw[fold_succ]at hg;generalize (List.range j).foldl (stepB (adj M i)) (sn,td)=s at b1 b2 hg ⊢;have b3:s.2.length<=td.length+sn.count false:=by
   dsimp only at b2;omega
  have e0:(zs (pre++i::s.2)).length=pre.length+s.2.length+1:=by simp [zs];omega
  have e1:(j:Int)<(M.length:Int):=by omega
  have e2:(0:Int)<=(j:Int):=by omega
  have e3:(zs (pre++i::s.2)).getD (0+Int.toNat (pre.length:Int)) 0=(i:Int):=by
   rw[getD_zs,Nat.zero_add,Int.toNat_natCast,List.getD_eq_getElem?_getD,List.getElem?_append_right (Nat.le_refl _)];simp
  have e4:(0:Int)<=(pre.length:Int):=by omega
  have e5:(pre.length:Int)<((pre.length+s.2.length+1:Nat):Int):=by omega
  have e6:(0:Int)<=(i:Int):=by omega
  have e7:(i:Int)<((mp B10 M).length:Int):=by rw[mp_len];omega
  have e8:(pre.length+s.2.length+1+1)*8<=140737488355328:=by omega
  have e9:(((M.getD i []).map (rp B10)).length:Int)=(M.length:Int):=by rw[List.length_map,hrow.1]
  have pl:=posF_len 0 s.1;have bl:s.1.length=M.length:=b1.len;have eh:S.s_l00Has (posF 0 s.1,(j:Int),())=some (s.1.getD j false,()):=by
   unfold S.s_l00Has;dsimp only;have:=posF_mem 0 s.1 j;rw[Int.zero_add]at this;rw[if_pos (by omega),this]
  have ep:S.s_l00Put (posF 0 s.1,(j:Int),())=some (posF 0 (s.1.set j true),()):=by
   unfold S.s_l00Put;dsimp only;have:=posF_put 0 s.1 j (by omega);rw[Int.zero_add]at this;rw[if_pos (by omega),this]
  rw[e0,e3,Int.toNat_natCast,mp_at hi,Int.toNat_natCast,getD_rp B10 (by rw[hrow.1];exact hj),zero_rp,Option.bind_some];simp only[e1,e2,e4,e5,e6,e7,e8,e9,decide_true,if_true,List.length_cons,List.length_nil,Nat.zero_add];rw[eh,ep,wr (by omega) (by omega)];simp only[Option.bind_some];have ha':(!decide (((M.getD i []).getD j a1f).2.1=0))=adj M i j:=by
   unfold adj;simp
  rw[ha'];unfold stepB at hg;cases ha:adj M i j
  ·rw[ha,if_neg (by simp)]at hg;rw[if_neg (by decide)];exact hg
  ·rw[if_pos rfl];cases hs:s.1.getD j false
   ·rw[ha,hs,if_pos ⟨rfl,rfl⟩]at hg;rw[if_pos (by decide),<-hg];simp [zs]
   ·rw[ha,hs,if_neg (by simp)]at hg;rw[if_neg (by decide)];exact hg) (fun g'=>by
  unfold P.s_l03Reach_b3;dsimp only;rw[if_neg (by simp),wr (by omega) (by omega)];rfl) hK
 exact key
theorem reS_outer {M:List (List Q3)} (hM:isM M) {K:Nat} (hK:M.length<K):∀(f k:Nat) (pre:List Nat) (sn:List Bool) (td:List Nat),Bok M.length (sn,td)->td.length+sn.count false<=f->f<k->pre.length+f<=1000000->loopP (P.s_l03Reach_b0 K) k ((pre.length:Int),zs (pre++td),mp B10 M,posF 0 sn,())=some (posF 0 (bfs (adj M) M.length f sn td),()):=by
 intro f
 induction f with
 |zero=>
  intro k pre sn td hb hm hk hf;cases k with
  |zero=>omega
  |succ k=>
   have:td=[]:=List.eq_nil_of_length_eq_zero (by omega);subst this;rw[a0k];unfold P.s_l03Reach_b0;dsimp only;rw[if_neg (by simp [zs])];rfl
 |succ f ih=>
  intro k pre sn td hb hm hk hf;cases k with
  |zero=>omega
  |succ k=>
   rw[a0k];cases td with
   |nil=>
    unfold P.s_l03Reach_b0;dsimp only;rw[if_neg (by simp [zs])];rfl
   |cons i r=>
    have hi:i<M.length:=hb.lt i (List.mem_cons_self ..);have hb':Bok M.length (sn,r):=⟨hb.len,fun t ht=>hb.lt t (List.mem_cons_of_mem _ ht)⟩
    have hm':r.length+sn.count false<=f:=by
     rw[List.length_cons]at hm;omega
    unfold P.s_l03Reach_b0;dsimp only;rw[if_pos (decide_eq_true (by simp [zs];omega)),mp_len,reS_inner hM hi pre hb' (by omega) _ hK,bfs];obtain⟨c1,c2⟩:=foldB_ok (a:=adj M i) hb' M.length (Nat.le_refl _);have:=ih k (pre++[i]) _ _ c1 (by
     have:(scanB (adj M i) M.length (sn,r)).2.length+(scanB (adj M i) M.length (sn,r)).1.count false=r.length+sn.count false:=c2;exact Nat.le_trans (Nat.le_of_eq this) hm') (by omega) (by simp;omega)
    rw[List.append_assoc,List.length_append]at this;exact this
open Classical in
def S.s_l03Reach (x:((List (List RB))×(Int×Unit))):(Option ((List Int)×Unit)):=if(∃M,isM M/\x.1=mp B10 M)/\0<=x.2.1/\x.2.1<(x.1.length:Int)then some (posF 0 (reachB (adj (mv B10 x.1)) x.1.length x.2.1.toNat),())else none
theorem S.s_l03Reach_ok (x r) (h:S.s_l03Reach x=some r):∃k,P.s_l03Reach k x=some r:=by
 obtain⟨m,s,u⟩:=x;unfold S.s_l03Reach at h;dsimp only at h;split at h
 case isFalse=>cases h
 rename_i hc;obtain⟨⟨M,hM,rfl⟩,h0,h1⟩:=hc;cases h;obtain⟨s,rfl⟩:=Int.eq_ofNat_of_zero_le h0;rw[mv_mp (by decide),mp_len]at*;have hs:s<M.length:=by omega
 have hn:=hM.1;refine⟨M.length+1,?_⟩;unfold P.s_l03Reach;dsimp only;obtain⟨c1,c2⟩:=start_ok hs;have:=reS_outer hM (K:=M.length+1) (by omega) M.length (M.length+1) [] _ [s] c1 (by omega) (by omega) (by simp;omega);rw[posF_start hs]at this;exact this
abbrev s_l03Inner.A:=Int×Int×List Int×List Int×List Int×Int×Int×Int×List (List RB)×Unit
abbrev s_l03Inner.B:=Int×Int×List Int×List (List RB)×List Int×Unit
abbrev s_l03Inner.C:=Option (List Int×Unit)
abbrev P.s_l03Inner_b5 (g2:s_l03Inner.B->s_l03Inner.C) (x6:s_l03Inner.A) (g7:s_l03Inner.A->s_l03Inner.C):s_l03Inner.C:=
 (fun(a b f h i:Int) (c d e:List Int) (j:List (List RB))=>if decide (a<b)then if decide (0<=a)then if decide (a<(d.length:Int))then(S.s_l00Has (c,d.getD a.toNat 0,())).bind fun y8=>if y8.1 then if decide (((e.length+(List.length [f]))*8)<=140737488355328)then g2 (wrap .i64 (h+1),i,c,j,e++[f],())else none else g7 (wrap .i64 (a+1),b,c,d,e,f,h,i,j,())else none else none else g2 (wrap .i64 (h+1),i,c,j,e,())) x6.1 x6.2.1 x6.2.2.2.2.2.1 x6.2.2.2.2.2.2.1 x6.2.2.2.2.2.2.2.1 x6.2.2.1 x6.2.2.2.1 x6.2.2.2.2.1 x6.2.2.2.2.2.2.2.2.1
abbrev P.s_l03Inner_b0 (k:Nat) (x1:s_l03Inner.B) (g2:s_l03Inner.B->s_l03Inner.C):s_l03Inner.C:=
 if decide (x1.1<x1.2.1)then(S.s_l00Has (x1.2.2.1,x1.1,())).bind fun y3=>if y3.1 then g2 (wrap .i64 (x1.1+1),x1.2.1,x1.2.2.1,x1.2.2.2.1,x1.2.2.2.2.1,())else(S.s_l03Reach (x1.2.2.2.1,x1.1,())).bind fun y4=>loopP (P.s_l03Inner_b5 g2) k (0,(y4.1.length:Int),x1.2.2.1,y4.1,x1.2.2.2.2.1,x1.1,x1.1,x1.2.1,x1.2.2.2.1,())else some (x1.2.2.2.2.1,())
def P.s_l03Inner (k:Nat) (x:List (List RB)×List Int×Unit):s_l03Inner.C:=
 loopP (P.s_l03Inner_b0 k) k (0,(x.1.length:Int),x.2.1,x.1,[],())
theorem sin_reach {M:List (List Q3)} (hM:isM M) {i:Nat} (hi:i<M.length):S.s_l03Reach (mp B10 M,(i:Int),())=some (zs (fl (rcB M i) M.length),()):=by
 have h:=posF_fl 0 (reachB (adj M) M.length i);rw[reachB_len hi]at h;unfold S.s_l03Reach;dsimp only;rw[if_pos ⟨⟨M,hM,rfl⟩,by omega,by rw[mp_len];omega⟩,mv_mp (by decide),mp_len,Int.toNat_natCast,h];rfl
theorem sin_has {ts:List Int} (h:ts.length<=1000000) (j:Nat):S.s_l00Has (ts,(j:Int),())=some (tgF ts j,()):=by
 unfold S.s_l00Has;dsimp only;rw[if_pos h];rfl
theorem sin_inner {M:List (List Q3)} (hM:isM M) {i:Nat} (hi:i<M.length) {ts:List Int} (ht:ts.length<=1000000) (hti:tgF ts i=false) (L:List Nat) (hL:L.length<=12) (g) {K:Nat} (hK:12<K):
  loopP (P.s_l03Inner_b5 g) K ((0:Int),((fl (rcB M i) M.length).length:Int),ts,zs (fl (rcB M i) M.length),zs L,(i:Int),(i:Int),(M.length:Int),mp B10 M,())=g (((i+1:Nat):Int),(M.length:Int),ts,mp B10 M,zs (L++if inC M (tgF ts) i=true then [i]else []),()):=by
 have hn:=hM.1;have hl:=fl_le (rcB M i) M.length;have hc:inC M (tgF ts) i=(fl (rcB M i) M.length).any (tgF ts):=by
  unfold inC fl;rw[hti,List.any_filter];rfl
 rw[hc];have key:=a0g (k:=K) (b:=P.s_l03Inner_b5 g) (n:=(fl (rcB M i) M.length).length) (st:=fun a=>((a:Int),((fl (rcB M i) M.length).length:Int),ts,zs (fl (rcB M i) M.length),zs L,(i:Int),(i:Int),(M.length:Int),mp B10 M,())) (F:=fun a=>g (((i+1:Nat):Int),(M.length:Int),ts,mp B10 M,zs (L++if((fl (rcB M i) M.length).drop a).any (tgF ts)=true then [i]else []),())) (fun a g' ha hg=>by
  unfold P.s_l03Inner_b5;dsimp only at hg ⊢;have e1:(a:Int)<((fl (rcB M i) M.length).length:Int):=by omega
  have e2:(0:Int)<=(a:Int):=by omega
  have e3:(L.length+1)*8<=140737488355328:=by omega
  have e4:(fl (rcB M i) M.length).getD a 0=(fl (rcB M i) M.length)[a]:=by simp [List.getD_eq_getElem?_getD,ha]
  simp only[zs_len,getD_zs,Int.toNat_natCast,List.length_cons,List.length_nil,Nat.zero_add,e1,e2,e3,decide_true,if_true];rw[sin_has ht,Option.bind_some,e4,List.drop_eq_getElem_cons ha,List.any_cons];cases tgF ts (fl (rcB M i) M.length)[a]
  ·rw[if_neg (by decide),Bool.false_or,wr (by omega) (by omega)];exact hg
  ·rw[if_pos rfl,Bool.true_or,if_pos rfl,wr (by omega) (by omega),zs_append];rfl) (fun g'=>by
  unfold P.s_l03Inner_b5;dsimp only;rw[if_neg (by simp),List.drop_length,wr (by omega) (by omega),List.any_nil,if_neg (by decide),List.append_nil];rfl) (by omega)
 rw[List.drop_zero]at key;exact key
open Classical in
def S.s_l03Inner (x:((List (List RB))×((List Int)×Unit))):(Option ((List Int)×Unit)):=if(∃M,isM M/\x.1=mp B10 M)/\x.2.1.length<=1000000 then some (zs (fl (inC (mv B10 x.1) (tgF x.2.1)) x.1.length),())else none
theorem S.s_l03Inner_ok (x r) (h:S.s_l03Inner x=some r):∃k,P.s_l03Inner k x=some r:=by
 obtain⟨m,ts,u⟩:=x;unfold S.s_l03Inner at h;dsimp only at h;split at h
 case isFalse=>cases h
 rename_i hc;obtain⟨⟨M,hM,rfl⟩,ht⟩:=hc;rw[mv_mp (by decide),mp_len]at h;cases h;have hn:=hM.1;refine⟨13,?_⟩;unfold P.s_l03Inner;dsimp only;rw[mp_len];exact a0g (k:=13) (b:=P.s_l03Inner_b0 13) (n:=M.length) (st:=fun i=>((i:Int),(M.length:Int),ts,mp B10 M,zs (fl (inC M (tgF ts)) i),())) (F:=fun _=>some (zs (fl (inC M (tgF ts)) M.length),())) (fun i g hi hg=>by
  unfold P.s_l03Inner_b0;dsimp only at hg ⊢;have e1:(i:Int)<(M.length:Int):=by omega
  have hli:=fl_le (inC M (tgF ts)) i;rw[fl_succ]at hg;rw[if_pos (decide_eq_true e1),sin_has ht,Option.bind_some];dsimp only;cases hti:tgF ts i
  ·rw[if_neg (by decide),sin_reach hM hi,Option.bind_some,<-hg];dsimp only;rw[zs_len];exact sin_inner hM hi ht hti (fl (inC M (tgF ts)) i) (by omega) g (by decide)
  ·have hcf:inC M (tgF ts) i=false:=by
    unfold inC;rw[hti];rfl
   rw[hcf,if_neg (by decide),List.append_nil]at hg;rw[if_pos rfl,wr (by omega) (by omega)];exact hg) (fun g=>by
  unfold P.s_l03Inner_b0;dsimp only;rw[if_neg (by simp)]) (by omega)
def P.s_l01Opposite (k:Nat) (x:RB×Unit):Option (RB×Unit):=
 if !x.1.1 then some ((decide ((x.1.2.1.length:Int)>0),x.1.2.1,x.1.2.2),())else some ((false,x.1.2.1,x.1.2.2),())
def S.s_l01Opposite (x:(RB×Unit)):(Option (RB×Unit)):=if rok B10 40000000 x.1=true then some (rp B10 (oppQ (rv B10 x.1)),())else none
theorem S.s_l01Opposite_ok (x r) (h:S.s_l01Opposite x=some r):∃k,P.s_l01Opposite k x=some r:=by
 obtain⟨x,u⟩:=x;unfold S.s_l01Opposite at h;dsimp only at h;split at h
 case isFalse=>cases h
 rename_i hc;cases h;refine⟨0,?_⟩;obtain⟨n,p,q,rfl,_,_⟩:=rok_nd hc;rw[rv_nd a0d];unfold P.s_l01Opposite oppQ rp;dsimp only;rw[nd_len_pos a0d];cases n
 ·rfl
 ·rfl
def P.s_l01Minus (k:Nat) (x:RB×RB×Unit):Option (RB×Unit):=
 (S.s_l01Opposite ((x.2.1.1,x.2.1.2.1,x.2.1.2.2),())).bind fun y0=>(S.s_l01Sum ((x.1.1,x.1.2.1,x.1.2.2),(y0.1.1,y0.1.2.1,y0.1.2.2),())).bind fun y1=>some ((y1.1.1,y1.1.2.1,y1.1.2.2),())
def S.s_l01Minus (x:(RB×(RB×Unit))):(Option (RB×Unit)):=if lowb B10 40000000 x.1=true/\lowb B10 40000000 x.2.1=true then some (rp B10 (addQ (rv B10 x.1) (oppQ (rv B10 x.2.1))),())else none
theorem S.s_l01Minus_ok (x r) (h:S.s_l01Minus x=some r):∃k,P.s_l01Minus k x=some r:=by
 obtain⟨x,y,u⟩:=x;unfold S.s_l01Minus at h;dsimp only at h;split at h
 case isFalse=>cases h
 rename_i hc;obtain⟨hx,hy⟩:=hc;cases h;have hy':=lowb_iff.1 hy;refine⟨0,?_⟩;have e1:S.s_l01Opposite (y,())=some (rp B10 (oppQ (rv B10 y)),()):=if_pos hy'.1;have hz:lowb B10 40000000 (rp B10 (oppQ (rv B10 y)))=true:=by
  rw[lowb_iff,rv_rp a0d];obtain⟨n2,p2,q2,rfl,y1,y2⟩:=rok_nd hy'.1;rw[rv_nd a0d]at hy' ⊢;exact⟨rok_iff.2 ⟨a0j a0d _,a0j a0d _,y1,y2⟩,oppQ_low _ hy'.2⟩
 have e2:S.s_l01Sum (x,(rp B10 (oppQ (rv B10 y)),()))=some (rp B10 (addQ (rv B10 x) (oppQ (rv B10 y))),()):=by
  unfold S.s_l01Sum;dsimp only;rw[if_pos ⟨hx,hz⟩,rv_rp a0d]
 show Option.bind (S.s_l01Opposite (y,())) (fun y0=>Option.bind (S.s_l01Sum (x,(y0.1,()))) (fun y1=>some (y1.1,())))=_;rw[e1,Option.bind_some,e2,Option.bind_some]
theorem rs_sub {x y:Q3} {m n:Nat} (hx:low x) (bx:below m x) (hy:low y) (bY:below n y) (hm:m<=350000000) (hn:n<=350000000):S.s_l01Minus (rp B10 x,(rp B10 y,()))=some (rp B10 (addQ x (oppQ y)),()):=by
 unfold S.s_l01Minus;dsimp only;rw[if_pos ⟨lowb_rp9 (by decide) hx bx (by omega),lowb_rp9 (by decide) hy bY (by omega)⟩,rv_rp a0d,rv_rp a0d]
def P.s_l01Over (k:Nat) (x:RB×RB×Unit):Option (RB×Unit):=
 (S.s_l01NatMul (x.1.2.1,x.2.1.2.2,())).bind fun y0=>(S.s_l01NatMul (x.1.2.2,x.2.1.2.1,())).bind fun y1=>(S.s_l01Make (! (x.1.1==x.2.1.1),y0.1,y1.1,())).bind fun y2=>some ((y2.1.1,y2.1.2.1,y2.1.2.2),())
def S.s_l01Over (x:(RB×(RB×Unit))):(Option (RB×Unit)):=if lowb B10 40000000 x.1=true/\lowb B10 40000000 x.2.1=true/\(rv B10 x.2.1).2.1≠0 then some (rp B10 (overQ (rv B10 x.1) (rv B10 x.2.1)),())else none
theorem S.s_l01Over_ok (x r) (h:S.s_l01Over x=some r):∃k,P.s_l01Over k x=some r:=by
 obtain⟨x,y,u⟩:=x;unfold S.s_l01Over at h;dsimp only at h;split at h
 case isFalse=>cases h
 rename_i hc;obtain⟨hx,hy,h0⟩:=hc;cases h;rw[lowb_iff]at hx hy;obtain⟨hx,lx⟩:=hx;obtain⟨hy,ly⟩:=hy;obtain⟨n1,p1,q1,rfl,x1,x2⟩:=rok_nd hx;obtain⟨n2,p2,q2,rfl,y1,y2⟩:=rok_nd hy;rw[rv_nd a0d]at lx ly h0 ⊢;rw[rv_nd a0d];have hq1:0<q1:=lx.1;have hq2:0<p2:=Nat.pos_of_ne_zero h0;have m1:=nd_mul_len a0d p1 q2;have m2:=nd_mul_len a0d q1 p2;have mul:∀p q:Nat,(nd B10 p).length<=100000000->(nd B10 q).length<=100000000->S.s_l01NatMul (nd B10 p,(nd B10 q,()))=some (nd B10 (p*q),()):=by
  intro p q hp hq;unfold S.s_l01NatMul;dsimp only;rw[if_pos ⟨dig_nd a0d _,dig_nd a0d _,by omega,by omega⟩,a0i a0d,a0i a0d]
 refine⟨0,?_⟩;unfold P.s_l01Over overQ;dsimp only;rw[mul p1 q2 (by omega) (by omega),Option.bind_some,mul q1 p2 (by omega) (by omega),Option.bind_some];unfold S.s_l01Make;dsimp only;rw[if_pos ⟨a0j a0d _,a0j a0d _,nd_ne a0d (Nat.ne_of_gt (Nat.mul_pos hq1 hq2)),by omega,by omega⟩,Option.bind_some,a0i a0d,a0i a0d];rfl
theorem rs_over {x y:Q3} {m n:Nat} (hx:low x) (bx:below m x) (hy:low y) (bY:below n y) (h0:y.2.1≠0) (hm:m<=350000000) (hn:n<=350000000):S.s_l01Over (rp B10 x,(rp B10 y,()))=some (rp B10 (overQ x y),()):=by
 unfold S.s_l01Over;dsimp only;rw[if_pos ⟨lowb_rp9 (by decide) hx bx (by omega),lowb_rp9 (by decide) hy bY (by omega),by rw[rv_rp a0d];exact h0⟩,rv_rp a0d,rv_rp a0d]
def P.s_l03Swap (k:Nat) (x:List (List RB×Nat)×Int×Int×Unit):Option (Unit×List (List RB×Nat)×Unit):=
 if decide (0<=x.2.1)then if decide (x.2.1<(List.length (hd0 x.1):Int))then if decide (0<=x.2.2.1)then if decide (x.2.2.1<(List.length (hd0 x.1):Int))then if decide (0<=x.2.1)then if decide (x.2.1<(List.length (hd0 x.1):Int))then if decide (0<=x.2.2.1)then if decide (x.2.2.1<(List.length (List.set (hd0 x.1) (0+x.2.1.toNat) ((List.getD (hd0 x.1) (0+x.2.2.1.toNat) (0,0)).1,(List.getD (hd0 x.1) (0+x.2.2.1.toNat) (0,0)).2)):Int))then if dup (List.map (fun(y0:Nat×Nat)=>y0.1) (List.set (List.set (hd0 x.1) (0+x.2.1.toNat) ((List.getD (hd0 x.1) (0+x.2.2.1.toNat) (0,0)).1,(List.getD (hd0 x.1) (0+x.2.2.1.toNat) (0,0)).2)) (0+x.2.2.1.toNat) ((List.getD (hd0 x.1) (0+x.2.1.toNat) (0,0)).1,(List.getD (hd0 x.1) (0+x.2.1.toNat) (0,0)).2)))then none else some ((),nrm (List.set (List.set (hd0 x.1) (0+x.2.1.toNat) ((List.getD (hd0 x.1) (0+x.2.2.1.toNat) (0,0)).1,(List.getD (hd0 x.1) (0+x.2.2.1.toNat) (0,0)).2)) (0+x.2.2.1.toNat) ((List.getD (hd0 x.1) (0+x.2.1.toNat) (0,0)).1,(List.getD (hd0 x.1) (0+x.2.1.toNat) (0,0)).2)) (in0 x.1),())else none else none else none else none else none else none else none else none
def S.s_l03Swap (x:((List ((List RB)×Nat))×(Int×(Int×Unit)))):(Option (Unit×((List ((List RB)×Nat))×Unit))):=P.s_l03Swap 0 x
theorem S.s_l03Swap_ok (x r) (h:S.s_l03Swap x=some r):∃k,P.s_l03Swap k x=some r:=⟨0,h⟩
abbrev s_l03Solve.A:=Option ((List RB×Bool)×List (List RB×Nat)×Unit)
abbrev s_l03Solve.B:=Int×Int×Int×List (List RB×Nat)×Unit
abbrev s_l03Solve.C:=Int×Int×List (List RB×Nat)×Unit
abbrev P.s_l03Solve_b22 (g16:s_l03Solve.B->s_l03Solve.A) (x23:Int×Int×List (List RB×Nat)×Int×RB×Int×Unit) (g24:Int×Int×List (List RB×Nat)×Int×RB×Int×Unit->s_l03Solve.A):s_l03Solve.A:=
 (fun(a b d f:Int) (c:List (List RB×Nat)) (e:RB)=>if decide (a<=b)then if decide (0<=d)then if decide (d<(List.length (hd0 c):Int))then if decide (0<=d)then if decide (d<(List.length (hd0 c):Int))then if decide (0<=a)then if decide (a<(((List.getD (hd0 c) (0+d.toNat) (0,0)).2:Nat):Int))then if decide (0<=f)then if decide (f<(List.length (hd0 c):Int))then if decide (0<=a)then if decide (a<(((List.getD (hd0 c) (0+f.toNat) (0,0)).2:Nat):Int))then(S.s_l01Times ((e.1,e.2.1,e.2.2),((List.getD (List.getD (in0 c) (List.getD (hd0 c) (0+f.toNat) (0,0)).1 []) (0+a.toNat) (false,[],[])).1,(List.getD (List.getD (in0 c) (List.getD (hd0 c) (0+f.toNat) (0,0)).1 []) (0+a.toNat) (false,[],[])).2.1,(List.getD (List.getD (in0 c) (List.getD (hd0 c) (0+f.toNat) (0,0)).1 []) (0+a.toNat) (false,[],[])).2.2),())).bind fun y25=>(S.s_l01Minus (((List.getD (List.getD (in0 c) (List.getD (hd0 c) (0+d.toNat) (0,0)).1 []) (0+a.toNat) (false,[],[])).1,(List.getD (List.getD (in0 c) (List.getD (hd0 c) (0+d.toNat) (0,0)).1 []) (0+a.toNat) (false,[],[])).2.1,(List.getD (List.getD (in0 c) (List.getD (hd0 c) (0+d.toNat) (0,0)).1 []) (0+a.toNat) (false,[],[])).2.2),(y25.1.1,y25.1.2.1,y25.1.2.2),())).bind fun y26=>if decide (0<=a)then if decide (a<(((List.getD (hd0 c) (0+d.toNat) (0,0)).2:Nat):Int))then if dup (List.map (fun(y27:Nat×Nat)=>y27.1) (hd0 c))then none else g24 (wrap .i64 (a+1),b,nrm (hd0 c) (List.set (in0 c) (List.getD (hd0 c) (0+d.toNat) (0,0)).1 (List.set (List.getD (in0 c) (List.getD (hd0 c) (0+d.toNat) (0,0)).1 []) (0+a.toNat) (y26.1.1,y26.1.2.1,y26.1.2.2))),d,(e.1,e.2.1,e.2.2),f,())else none else none else none else none else none else none else none else none else none else none else none else none else if dup (List.map (fun(y28:Nat×Nat)=>y28.1) (hd0 c))then none else g16 (wrap .i64 (d+1),b,f,nrm (hd0 c) (in0 c),())) x23.1 x23.2.1 x23.2.2.2.1 x23.2.2.2.2.2.1 x23.2.2.1 x23.2.2.2.2.1
abbrev P.s_l03Solve_b14 (k:Nat) (g3:s_l03Solve.C->s_l03Solve.A) (x15:s_l03Solve.B) (g16:s_l03Solve.B->s_l03Solve.A):s_l03Solve.A:=
 (fun(a b c:Int) (d:List (List RB×Nat))=>if decide (a<b)then if a==c then if dup (List.map (fun(y17:Nat×Nat)=>y17.1) (hd0 d))then none else g16 (wrap .i64 (a+1),b,c,nrm (hd0 d) (in0 d),())else if decide (0<=a)then if decide (a<(List.length (hd0 d):Int))then if decide (0<=c)then if decide (c<(((List.getD (hd0 d) (0+a.toNat) (0,0)).2:Nat):Int))then(S.s_l01Zero (((List.getD (List.getD (in0 d) (List.getD (hd0 d) (0+a.toNat) (0,0)).1 []) (0+c.toNat) (false,[],[])).1,(List.getD (List.getD (in0 d) (List.getD (hd0 d) (0+a.toNat) (0,0)).1 []) (0+c.toNat) (false,[],[])).2.1,(List.getD (List.getD (in0 d) (List.getD (hd0 d) (0+a.toNat) (0,0)).1 []) (0+c.toNat) (false,[],[])).2.2),())).bind fun y18=>if y18.1 then if dup (List.map (fun(y19:Nat×Nat)=>y19.1) (hd0 d))then none else g16 (wrap .i64 (a+1),b,c,nrm (hd0 d) (in0 d),())else if decide (0<=a)then if decide (a<(List.length (hd0 d):Int))then if decide (0<=c)then if decide (c<(((List.getD (hd0 d) (0+a.toNat) (0,0)).2:Nat):Int))then if decide (0<=c)then if decide (c<(List.length (hd0 d):Int))then if decide (0<=c)then if decide (c<(((List.getD (hd0 d) (0+c.toNat) (0,0)).2:Nat):Int))then(S.s_l01Over (((List.getD (List.getD (in0 d) (List.getD (hd0 d) (0+a.toNat) (0,0)).1 []) (0+c.toNat) (false,[],[])).1,(List.getD (List.getD (in0 d) (List.getD (hd0 d) (0+a.toNat) (0,0)).1 []) (0+c.toNat) (false,[],[])).2.1,(List.getD (List.getD (in0 d) (List.getD (hd0 d) (0+a.toNat) (0,0)).1 []) (0+c.toNat) (false,[],[])).2.2),((List.getD (List.getD (in0 d) (List.getD (hd0 d) (0+c.toNat) (0,0)).1 []) (0+c.toNat) (false,[],[])).1,(List.getD (List.getD (in0 d) (List.getD (hd0 d) (0+c.toNat) (0,0)).1 []) (0+c.toNat) (false,[],[])).2.1,(List.getD (List.getD (in0 d) (List.getD (hd0 d) (0+c.toNat) (0,0)).1 []) (0+c.toNat) (false,[],[])).2.2),())).bind fun y20=>if dup (List.map (fun(y21:Nat×Nat)=>y21.1) (hd0 d))then none else loopP (P.s_l03Solve_b22 g16) k (c,b,nrm (hd0 d) (in0 d),a,(y20.1.1,y20.1.2.1,y20.1.2.2),c,())else none else none else none else none else none else none else none else none else none else none else none else none else if dup (List.map (fun(y29:Nat×Nat)=>y29.1) (hd0 d))then none else g3 (wrap .i64 (c+1),b,nrm (hd0 d) (in0 d),())) x15.1 x15.2.1 x15.2.2.1 x15.2.2.2.1
abbrev P.s_l03Solve_b5 (k:Nat) (g3:s_l03Solve.C->s_l03Solve.A) (x6:Int×Int×List (List RB×Nat)×Int×Unit) (g7:Int×Int×List (List RB×Nat)×Int×Unit->s_l03Solve.A):s_l03Solve.A:=
 (fun(a b d:Int) (c:List (List RB×Nat))=>if decide (a<b)then if decide (0<=a)then if decide (a<(List.length (hd0 c):Int))then if decide (0<=d)then if decide (d<(((List.getD (hd0 c) (0+a.toNat) (0,0)).2:Nat):Int))then(S.s_l01Zero (((List.getD (List.getD (in0 c) (List.getD (hd0 c) (0+a.toNat) (0,0)).1 []) (0+d.toNat) (false,[],[])).1,(List.getD (List.getD (in0 c) (List.getD (hd0 c) (0+a.toNat) (0,0)).1 []) (0+d.toNat) (false,[],[])).2.1,(List.getD (List.getD (in0 c) (List.getD (hd0 c) (0+a.toNat) (0,0)).1 []) (0+d.toNat) (false,[],[])).2.2),())).bind fun y8=>if y8.1 then if dup (List.map (fun(y9:Nat×Nat)=>y9.1) (hd0 c))then none else g7 (wrap .i64 (a+1),b,nrm (hd0 c) (in0 c),d,())else if a==b then if dup (List.map (fun(y10:Nat×Nat)=>y10.1) (hd0 c))then none else some (([],false),nrm (hd0 c) (in0 c),())else if dup (List.map (fun(y11:Nat×Nat)=>y11.1) (hd0 c))then none else(S.s_l03Swap (nrm (hd0 c) (in0 c),d,a,())).bind fun y12=>if dup (List.map (fun(y13:Nat×Nat)=>y13.1) (hd0 y12.2.1))then none else loopP (P.s_l03Solve_b14 k g3) k (0,b,d,nrm (hd0 y12.2.1) (in0 y12.2.1),())else none else none else none else none else if a==b then if dup (List.map (fun(y30:Nat×Nat)=>y30.1) (hd0 c))then none else some (([],false),nrm (hd0 c) (in0 c),())else if dup (List.map (fun(y31:Nat×Nat)=>y31.1) (hd0 c))then none else(S.s_l03Swap (nrm (hd0 c) (in0 c),d,a,())).bind fun y32=>if dup (List.map (fun(y33:Nat×Nat)=>y33.1) (hd0 y32.2.1))then none else loopP (P.s_l03Solve_b14 k g3) k (0,b,d,nrm (hd0 y32.2.1) (in0 y32.2.1),())) x6.1 x6.2.1 x6.2.2.2.1 x6.2.2.1
abbrev P.s_l03Solve_b51 (x52:Int×Int×List RB×List (List RB×Nat)×Unit) (g53:Int×Int×List RB×List (List RB×Nat)×Unit->s_l03Solve.A):s_l03Solve.A:=
 (fun(a b:Int) (c:List RB) (d:List (List RB×Nat))=>if decide (a<b)then if decide (0<=a)then if decide (a<(List.length (hd0 d):Int))then if decide (0<=b)then if decide (b<(((List.getD (hd0 d) (0+a.toNat) (0,0)).2:Nat):Int))then if decide (0<=a)then if decide (a<(List.length (hd0 d):Int))then if decide (0<=a)then if decide (a<(((List.getD (hd0 d) (0+a.toNat) (0,0)).2:Nat):Int))then(S.s_l01Over (((List.getD (List.getD (in0 d) (List.getD (hd0 d) (0+a.toNat) (0,0)).1 []) (0+b.toNat) (false,[],[])).1,(List.getD (List.getD (in0 d) (List.getD (hd0 d) (0+a.toNat) (0,0)).1 []) (0+b.toNat) (false,[],[])).2.1,(List.getD (List.getD (in0 d) (List.getD (hd0 d) (0+a.toNat) (0,0)).1 []) (0+b.toNat) (false,[],[])).2.2),((List.getD (List.getD (in0 d) (List.getD (hd0 d) (0+a.toNat) (0,0)).1 []) (0+a.toNat) (false,[],[])).1,(List.getD (List.getD (in0 d) (List.getD (hd0 d) (0+a.toNat) (0,0)).1 []) (0+a.toNat) (false,[],[])).2.1,(List.getD (List.getD (in0 d) (List.getD (hd0 d) (0+a.toNat) (0,0)).1 []) (0+a.toNat) (false,[],[])).2.2),())).bind fun y54=>if decide (((c.length+(List.length [(y54.1.1,y54.1.2.1,y54.1.2.2)]))*56)<=140737488355328)then if dup (List.map (fun(y55:Nat×Nat)=>y55.1) (hd0 d))then none else g53 (wrap .i64 (a+1),b,c++[(y54.1.1,y54.1.2.1,y54.1.2.2)],nrm (hd0 d) (in0 d),())else none else none else none else none else none else none else none else none else none else if dup (List.map (fun(y56:Nat×Nat)=>y56.1) (hd0 d))then none else some ((c,true),nrm (hd0 d) (in0 d),())) x52.1 x52.2.1 x52.2.2.1 x52.2.2.2.1
abbrev P.s_l03Solve_b1 (k:Nat) (x2:s_l03Solve.C) (g3:s_l03Solve.C->s_l03Solve.A):s_l03Solve.A:=
 if decide (x2.1<x2.2.1)then if dup (List.map (fun(y4:Nat×Nat)=>y4.1) (hd0 x2.2.2.1))then none else loopP (P.s_l03Solve_b5 k g3) k (x2.1,x2.2.1,nrm (hd0 x2.2.2.1) (in0 x2.2.2.1),x2.1,())else if dup (List.map (fun(y50:Nat×Nat)=>y50.1) (hd0 x2.2.2.1))then none else loopP P.s_l03Solve_b51 k (0,x2.2.1,[],nrm (hd0 x2.2.2.1) (in0 x2.2.2.1),())
def P.s_l03Solve (k:Nat) (x:List (List RB×Nat)×Unit):s_l03Solve.A:=
 if dup (List.map (fun(y0:Nat×Nat)=>y0.1) (hd0 x.1))then none else loopP (P.s_l03Solve_b1 k) k (0,(List.length (hd0 x.1):Int),nrm (hd0 x.1) (in0 x.1),())
theorem sv_mul {a b:Q3} (ha:okq a) (hb:okq b):S.s_l01Times (((rp B10 a).1,(rp B10 a).2.1,(rp B10 a).2.2),((rp B10 b).1,(rp B10 b).2.1,(rp B10 b).2.2),())=some (rp B10 (mulQ a b),()):=rs_mul ha.1 ha.2 hb.1 hb.2 (Nat.le_refl _) (Nat.le_refl _)
theorem sv_sub {a b:Q3} (ha:okq a) (hb:okq b):S.s_l01Minus (((rp B10 a).1,(rp B10 a).2.1,(rp B10 a).2.2),((rp B10 b).1,(rp B10 b).2.1,(rp B10 b).2.2),())=some (rp B10 (addQ a (oppQ b)),()):=rs_sub ha.1 ha.2 hb.1 hb.2 (Nat.le_refl _) (Nat.le_refl _)
theorem sv_over {a b:Q3} (ha:okq a) (hb:okq b) (h0:b.2.1≠0):S.s_l01Over (((rp B10 a).1,(rp B10 a).2.1,(rp B10 a).2.2),((rp B10 b).1,(rp B10 b).2.1,(rp B10 b).2.2),())=some (rp B10 (overQ a b),()):=rs_over ha.1 ha.2 hb.1 hb.2 h0 (Nat.le_refl _) (Nat.le_refl _)
theorem sv_zero (q:Q3):S.s_l01Zero (((rp B10 q).1,(rp B10 q).2.1,(rp B10 q).2.2),())=some (decide (q.2.1=0),()):=by
 unfold S.s_l01Zero P.s_l01Zero rp;dsimp only;congr 2;rw[Bool.eq_iff_iff,beq_iff_eq,decide_eq_true_iff,<-nd_zero_iff (B:=B10) (by decide),<-List.length_eq_zero_iff];omega
def svM (b:Nat->Nat->Q3) (k r j:Nat):Nat->Nat->Q3:=fun x y=>if x<r\/(x=r/\y<j)then elF true b k x y else b x y
theorem svM_row (b:Nat->Nat->Q3) (k r:Nat) (h:r=k\/(b r k).2.1=0):svM b k r 0=svM b k (r+1) 0:=by
 funext x y;unfold svM
 by_cases w:x<r
 ·rw[if_pos (Or.inl w),if_pos (Or.inl (by omega))]
 ·by_cases w2:x=r
  ·subst w2;rw[if_neg (by omega),if_pos (Or.inl (by omega))];unfold elF;rw[if_neg (fun q=>by
    rcases h with h|h
    ·rcases q.1 with q|q
     ·omega
     ·exact q.2 h
    ·exact q.2.1 h)]
  ·rw[if_neg (by omega),if_neg (by omega)]
theorem svM_wide (b:Nat->Nat->Q3) {n k r:Nat} :om B10 n (n+1) (svM b k r (n+1))=om B10 n (n+1) (svM b k (r+1) 0):=om_congr fun x hx y hy=>by
 unfold svM
 by_cases w:x<r\/(x=r/\y<n+1)
 ·rw[if_pos w,if_pos (by omega)]
 ·rw[if_neg w,if_neg (by omega)]
theorem sv_inner {b:Nat->Nat->Q3} {n k:Nat} (h:elOk b n k) {r:Nat} (hr:r<n) (hrk:r≠k) (hf:(b r k).2.1≠0) (g) {K:Nat} (hK:13<K):
  loopP (P.s_l03Solve_b22 g) K ((k:Int),(n:Int),om B10 n (n+1) (svM b k r 0),(r:Int),rp B10 (overQ (b r k) (b k k)),(k:Int),())=g (((r+1:Nat):Int),(n:Int),(k:Int),om B10 n (n+1) (svM b k (r+1) 0),()):=by
 obtain⟨kn,n12,hnum,hp,hF,hM⟩:=h;have hstart:svM b k r 0=svM b k r k:=by
  funext x y;unfold svM
  by_cases w:x<r
  ·rw[if_pos (Or.inl w),if_pos (Or.inl w)]
  ·rw[if_neg (by omega)]
   by_cases w2:x=r/\y<k
   ·rw[if_pos (Or.inr w2)];unfold elF;rw[if_neg (fun q=>by omega)]
   ·rw[if_neg (fun q=>q.elim w w2)]
 rw[hstart]
 have key:=loop_from (k:=K) (b:=P.s_l03Solve_b22 g) (s:=k) (n:=n+1) (st:=fun j=>((j:Int),(n:Int),om B10 n (n+1) (svM b k r j),(r:Int),rp B10 (overQ (b r k) (b k k)),(k:Int),())) (F:=fun _=>g (((r+1:Nat):Int),(n:Int),(k:Int),om B10 n (n+1) (svM b k (r+1) 0),())) (by omega) (fun j g' hkj hj hg=>by
  unfold P.s_l03Solve_b22;dsimp only at hg ⊢;have e1:(j:Int)<=(n:Int):=by omega
  have e2:(0:Int)<=(j:Int):=by omega
  have e3:(0:Int)<=(r:Int):=by omega
  have e4:(r:Int)<(n:Int):=by omega
  have e5:(0:Int)<=(k:Int):=by omega
  have e6:(k:Int)<(n:Int):=by omega
  have e7:(j:Int)<((n+1:Nat):Int):=by omega
  have v2:svM b k r j k j=b k j:=by
   unfold svM
   by_cases w:k<r\/(k=r/\j<j)
   ·rw[if_pos w];unfold elF;rw[if_neg (fun q=>by
     rcases q.1 with q|q
     ·omega
     ·exact q.2 rfl)]
   ·rw[if_neg w]
  have v3:svM b k r j r j=b r j:=by
   unfold svM;rw[if_neg (by omega)]
  have v5:updM (svM b k r j) r j (addQ (b r j) (oppQ (mulQ (overQ (b r k) (b k k)) (b k j))))=svM b k r (j+1):=by
   funext x y;unfold updM
   by_cases q:x=r/\y=j
   ·rw[if_pos q,q.1,q.2];unfold svM;rw[if_pos (Or.inr ⟨rfl,by omega⟩)];unfold elF;rw[if_pos ⟨Or.inr ⟨rfl,hrk⟩,hf,hkj⟩];rfl
   ·rw[if_neg q];unfold svM
    by_cases w:x<r\/(x=r/\y<j)
    ·rw[if_pos w,if_pos (by omega)]
    ·rw[if_neg w,if_neg (by omega)]
  simp only[a0t,om_len,Int.toNat_natCast,Nat.zero_add,om_hd hr,om_hd kn,om_in hr,om_in kn,om_num (show j<n+1 by omega),hd0_dup,e1,e2,e3,e4,e5,e6,e7,decide_true,if_true,Bool.false_eq_true,if_false,v2,v3];rw[sv_mul (hF r hr) (hnum k kn j (by omega)),Option.bind_some];dsimp only;rw[sv_sub (hnum r hr j (by omega)) (hM r hr j (by omega)),Option.bind_some];dsimp only;rw[wr (by omega) (by omega)];show g' (_,_,nrm (hd0 _) ((in0 _).set r (((tab (n+1) (svM b k r j r)).map (rp B10)).set j (rp B10 _))),_)=_;rw[om_write hr,v5];exact hg) (fun g'=>by
  unfold P.s_l03Solve_b22;dsimp only;rw[if_neg (by simp;omega),hd0_dup,nrm_hd0,wr (by omega) (by omega),if_neg (by decide),svM_wide];rfl) (by omega)
 exact key
theorem sv_rows {b:Nat->Nat->Q3} {n k:Nat} (h:elOk b n k) (g) {K:Nat} (hK:13<K):
  loopP (P.s_l03Solve_b14 K g) K ((0:Int),(n:Int),(k:Int),om B10 n (n+1) b,())=g (((k+1:Nat):Int),(n:Int),om B10 n (n+1) (elF true b k),()):=by
 have h':=h;obtain⟨kn,n12,hnum,hp,hF,hM⟩:=h;have hstart:svM b k 0 0=b:=by
  funext x y;unfold svM;rw[if_neg (by omega)]
 have key:=a0g (k:=K) (b:=P.s_l03Solve_b14 K g) (n:=n) (st:=fun r=>((r:Int),(n:Int),(k:Int),om B10 n (n+1) (svM b k r 0),())) (F:=fun _=>g (((k+1:Nat):Int),(n:Int),om B10 n (n+1) (elF true b k),())) (fun r g' hr hg=>by
  unfold P.s_l03Solve_b14;dsimp only at hg ⊢;have e1:(r:Int)<(n:Int):=by omega
  have e3:(0:Int)<=(r:Int):=by omega
  have e5:(0:Int)<=(k:Int):=by omega
  have e6:(k:Int)<(n:Int):=by omega
  have e7:(k:Int)<((n+1:Nat):Int):=by omega
  rw[if_pos (decide_eq_true e1)]
  by_cases hrk:r=k
  ·rw[if_pos (by rw[beq_iff_eq];omega),hd0_dup,nrm_hd0,if_neg (by decide),wr (by omega) (by omega),<-hg,<-svM_row b k r (Or.inl hrk)];rfl
  rw[if_neg (by rw[beq_iff_eq];omega)];have v1:svM b k r 0 r k=b r k:=by
   unfold svM;rw[if_neg (by omega)]
  have v2:svM b k r 0 k k=b k k:=by
   unfold svM
   by_cases w:k<r\/(k=r/\k<0)
   ·rw[if_pos w];unfold elF;rw[if_neg (fun q=>by
     rcases q.1 with q|q
     ·omega
     ·exact q.2 rfl)]
   ·rw[if_neg w]
  simp only[a0t,om_len,Int.toNat_natCast,Nat.zero_add,om_hd hr,om_hd kn,om_in hr,om_in kn,om_num (show k<n+1 by omega),hd0_dup,nrm_hd0,e1,e3,e5,e6,e7,decide_true,if_true,Bool.false_eq_true,if_false,v1,v2];rw[sv_zero,Option.bind_some]
  by_cases hz:(b r k).2.1=0
  ·rw[if_pos (decide_eq_true hz),wr (by omega) (by omega),<-hg,<-svM_row b k r (Or.inr hz)];rfl
  ·rw[if_neg (by simpa using hz),sv_over (hnum r hr k (by omega)) (hnum k kn k (by omega)) hp,Option.bind_some];dsimp only;rw[<-hg];exact sv_inner h' hr hrk hz g' hK) (fun g'=>by
  unfold P.s_l03Solve_b14;dsimp only;rw[if_neg (by simp),hd0_dup,nrm_hd0,if_neg (by decide),wr (by omega) (by omega)];have:om B10 n (n+1) (svM b k n 0)=om B10 n (n+1) (elF true b k):=om_congr fun x hx y hy=>by
   unfold svM;rw[if_pos (Or.inl hx)]
  rw[this];rfl) (by omega)
 rw[hstart]at key;exact key
theorem sv_swap {a:Nat->Nat->Q3} {r c i k:Nat} (hi:i<r) (hk:k<r):S.s_l03Swap (om B10 r c a,(i:Int),(k:Int),())=some ((),om B10 r c (swQ a i k),()):=by
 unfold S.s_l03Swap P.s_l03Swap;dsimp only;have e1:(0:Int)<=(i:Int):=by omega
 have e2:(i:Int)<(r:Int):=by omega
 have e3:(0:Int)<=(k:Int):=by omega
 have e4:(k:Int)<(r:Int):=by omega
 have hs:=om_swap (B:=B10) (c:=c) (a:=a) hi hk;have hp:∀p:Nat×Nat,(p.1,p.2)=p:=fun p=>rfl
 simp only[hp,a0t,om_len,List.length_set,Int.toNat_natCast,Nat.zero_add,hs,sw_dup,sw_nrm hi hk,e1,e2,e3,e4,decide_true,if_true,Bool.false_eq_true,if_false]
theorem sv_search {a:Nat->Nat->Q3} {n k:Nat} (hk:k<n) (n12:n<=12) (g) {K:Nat} :∀(m i F:Nat),i+m=n->m<F->pvF (fun i=>decide ((a i k).2.1≠0)) m i<n->
  loopP (P.s_l03Solve_b5 K g) F ((i:Int),(n:Int),om B10 n (n+1) a,(k:Int),())=loopP (P.s_l03Solve_b14 K g) K ((0:Int),(n:Int),(k:Int),om B10 n (n+1) (swQ a k (pvF (fun i=>decide ((a i k).2.1≠0)) m i)),()):=by
 intro m
 induction m with
 |zero=>
  intro i F hi hF hp;unfold pvF at hp;omega
 |succ m ih=>
  intro i F hi hF hp;obtain⟨F,rfl⟩:∃j,F=j+1:=⟨F - 1,by omega⟩
  rw[a0k];have ih':=ih (i+1) F (by omega) (by omega);generalize loopP (P.s_l03Solve_b5 K g) F=g' at ih' ⊢;unfold P.s_l03Solve_b5;dsimp only;have hin:i<n:=by omega
  have e1:(i:Int)<(n:Int):=by omega
  have e2:(0:Int)<=(i:Int):=by omega
  have e3:(0:Int)<=(k:Int):=by omega
  have e4:(k:Int)<((n+1:Nat):Int):=by omega
  simp only[a0t,om_len,Int.toNat_natCast,Nat.zero_add,om_hd hin,om_in hin,om_num (show k<n+1 by omega),hd0_dup,nrm_hd0,e1,e2,e3,e4,decide_true,if_true,Bool.false_eq_true,if_false];rw[sv_zero,Option.bind_some];unfold pvF at hp ⊢
  by_cases hz:(a i k).2.1=0
  ·have hd:¬(decide ((a i k).2.1≠0)=true):=by simp [hz]
   rw[if_neg hd]at hp ⊢;rw[if_pos (decide_eq_true hz),wr (by omega) (by omega)];exact ih' hp
  ·have hd:decide ((a i k).2.1≠0)=true:=decide_eq_true hz;rw[if_pos hd]at hp ⊢;rw[if_neg (by simpa using hz),if_neg (by rw[beq_iff_eq];omega),sv_swap hk hin,Option.bind_some]
open Classical in
def S.s_l03Solve (x:((List ((List RB)×Nat))×Unit)):(Option (((List RB)×Bool)×((List ((List RB)×Nat))×Unit))):=
 if h:∃(a:Nat->Nat->Q3) (n:Nat),x.1=om B10 n (n+1) a/\elsOk true a n then some (((tab h.choose_spec.choose (solS h.choose h.choose_spec.choose)).map (rp B10),true),om B10 h.choose_spec.choose (h.choose_spec.choose+1) (elim true h.choose_spec.choose h.choose h.choose_spec.choose),())else none
theorem S.s_l03Solve_ok (x r) (h:S.s_l03Solve x=some r):∃k,P.s_l03Solve k x=some r:=by
 obtain⟨m,u⟩:=x;unfold S.s_l03Solve at h;dsimp only at h;split at h
 case isFalse=>cases h
 rename_i hc;have hs:=hc.choose_spec.choose_spec;cases h;generalize hc.choose_spec.choose=n at*;generalize hc.choose=a at*;obtain⟨rfl,hr⟩:=hs;obtain⟨n12,hnum,hpiv,hel,hdia⟩:=hr;refine⟨14,?_⟩;unfold P.s_l03Solve;dsimp only;rw[hd0_dup,nrm_hd0,a0t,om_len,if_neg (by decide)];have key:=a0g (k:=14) (b:=P.s_l03Solve_b1 14) (n:=n) (st:=fun k=>((k:Int),(n:Int),om B10 n (n+1) (elim true n a k),())) (F:=fun _=>some (((tab n (solS a n)).map (rp B10),true),om B10 n (n+1) (elim true n a n),())) (fun k g hk hg=>by
  unfold P.s_l03Solve_b1;dsimp only at hg ⊢;rw[if_pos (decide_eq_true (by omega)),hd0_dup,nrm_hd0,if_neg (by decide)];have hp:=(hpiv k hk).2.1;have he:=hel k hk;have hs:=sv_search (a:=elim true n a k) hk n12 g (K:=14) (n - k) k 14 (by omega) (by omega) hp;rw[elim]at hg;rw[<-hg];exact hs.trans (sv_rows he g (by decide))) (fun g=>by
  unfold P.s_l03Solve_b1;dsimp only;rw[if_neg (by simp),hd0_dup,nrm_hd0,if_neg (by decide)];have key2:=a0g (k:=14) (b:=P.s_l03Solve_b51) (n:=n) (st:=fun i=>((i:Int),(n:Int),(tab i (solS a n)).map (rp B10),om B10 n (n+1) (elim true n a n),())) (F:=fun _=>some (((tab n (solS a n)).map (rp B10),true),om B10 n (n+1) (elim true n a n),())) (fun i g' hi hg=>by
   unfold P.s_l03Solve_b51;dsimp only at hg ⊢;have e1:(i:Int)<(n:Int):=by omega
   have e2:(0:Int)<=(i:Int):=by omega
   have e3:(0:Int)<=(n:Int):=by omega
   have e4:(n:Int)<((n+1:Nat):Int):=by omega
   have e5:(i:Int)<((n+1:Nat):Int):=by omega
   have e6:(i+1)*56<=140737488355328:=by omega
   simp only[a0t,om_len,Int.toNat_natCast,Nat.zero_add,om_hd hi,om_in hi,om_num (show n<n+1 by omega),om_num (show i<n+1 by omega),hd0_dup,nrm_hd0,e1,e2,e3,e4,e5,decide_true,if_true,Bool.false_eq_true,if_false];rw[sv_over (hnum n (Nat.le_refl _) i hi n (Nat.le_refl _)) (hnum n (Nat.le_refl _) i hi i (by omega)) (hdia i hi),Option.bind_some];dsimp only;simp only[List.length_map,a1c,List.length_cons,List.length_nil,Nat.zero_add,e6,decide_true,if_true];rw[wr (by omega) (by omega)];rw[<-tabm_snoc]at hg;exact hg) (fun g'=>by
   unfold P.s_l03Solve_b51;dsimp only;rw[if_neg (by simp),hd0_dup,nrm_hd0,if_neg (by decide)]) (by omega)
  exact key2) (by omega)
 exact key
theorem solve_s {a:Nat->Nat->Q3} {n:Nat} (h:elsOk true a n):S.s_l03Solve (om B10 n (n+1) a,())=some (((tab n (solS a n)).map (rp B10),true),om B10 n (n+1) (elim true n a n),()):=by
 unfold S.s_l03Solve;have hc:∃(b:Nat->Nat->Q3) (m:Nat),(om B10 n (n+1) a,()).1=om B10 m (m+1) b/\elsOk true b m:=⟨a,n,rfl,h⟩
 rw[dif_pos hc];obtain⟨e,hb⟩:=hc.choose_spec.choose_spec;dsimp only at e;generalize hc.choose_spec.choose=m at*;generalize hc.choose=b at*;obtain⟨e1,e2⟩:=om_inj a0d e;subst e1;have hab:∀i,i<n->∀j,j<=n->a i j=b i j:=fun i hi j hj=>(e2 i hi).2 j (by omega)
 have hg:=elim_congr (full:=true) hab (fun k hk=>(h.piv k hk).2.1) n (Nat.le_refl _);have hw:tab n (solS b n)=tab n (solS a n):=a0w fun i hi=>by
  unfold solS;rw[hg i hi n (Nat.le_refl _),hg i hi i (by omega)]
 rw[hw,om_congr fun i hi j hj=>hg i hi j (by omega)]
end Go.Cm
end
