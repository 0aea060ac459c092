import Derived.Test.YtjacdajcppcdlaaGreatDoorPlVisitsBeforea
set_option linter.unusedVariables false
set_option maxRecDepth 100000
noncomputable section
namespace Go.Cm
open IntKind (wrap)
abbrev s_l01NatDiv.A:=Int×List Int×Int×Int×List Int×Int×List Int×Int×Unit
abbrev s_l01NatDiv.B:=Int×List Int×Int×List Int×List Int×Int×Unit
abbrev s_l01NatDiv.C:=Option ((List Int×List Int)×Unit)
abbrev P.b0d (g11:s_l01NatDiv.B->s_l01NatDiv.C) (x13:s_l01NatDiv.A) (g14:s_l01NatDiv.A->s_l01NatDiv.C):s_l01NatDiv.C:=
 (fun(a c d f i:Int) (b e h:List Int)=>if decide (a>=(1000000000:Int))then if decide ((0:Int)<=(IntKind.wrap .i64 (c - (1:Int))))then if decide ((IntKind.wrap .i64 (c - (1:Int)))<(b.length:Int))then if decide ((IntKind.wrap .i64 (d+(b.getD (Int.toNat (IntKind.wrap .i64 (c - (1:Int)))) (0:Int))))>=(1000000000:Int))then(S.a5f (e,b,f,IntKind.wrap .i64 (a - (1:Int)),())).bind fun y15=>if y15.1 then(S.a5g (splice e y15.2.1 (0:Nat),b,f,())).bind fun y16=>if decide ((0:Int)<=f)then if decide (f<(h.length:Int))then g11 (IntKind.wrap .i64 (f - (1:Int)),splice (splice e y15.2.1 (0:Nat)) y16.2.1 (0:Nat),c,b,h.set ((0:Nat)+f.toNat) (IntKind.wrap .i64 ((IntKind.wrap .i64 (a - (1:Int))) - (1:Int))),i,())else none else none else if decide ((0:Int)<=f)then if decide (f<(h.length:Int))then g11 (IntKind.wrap .i64 (f - (1:Int)),splice e y15.2.1 (0:Nat),c,b,h.set ((0:Nat)+f.toNat) (IntKind.wrap .i64 (a - (1:Int))),i,())else none else none else g14 (IntKind.wrap .i64 (a - (1:Int)),b,c,IntKind.wrap .i64 (d+(b.getD (Int.toNat (IntKind.wrap .i64 (c - (1:Int)))) (0:Int))),e,f,h,i,())else none else none else if decide ((0:Int)<=(IntKind.wrap .i64 (c - (2:Int))))then if decide ((IntKind.wrap .i64 (c - (2:Int)))<(b.length:Int))then if decide ((0:Int)<=(IntKind.wrap .i64 ((IntKind.wrap .i64 (f+c)) - (2:Int))))then if decide ((IntKind.wrap .i64 ((IntKind.wrap .i64 (f+c)) - (2:Int)))<(e.length:Int))then if decide ((IntKind.wrap .i64 (a*(b.getD (Int.toNat (IntKind.wrap .i64 (c - (2:Int)))) (0:Int))))>(IntKind.wrap .i64 ((IntKind.wrap .i64 (d*(1000000000:Int)))+(e.getD ((0:Nat)+(Int.toNat (IntKind.wrap .i64 ((IntKind.wrap .i64 (f+c)) - (2:Int))))) (0:Int)))))then if decide ((0:Int)<=(IntKind.wrap .i64 (c - (1:Int))))then if decide ((IntKind.wrap .i64 (c - (1:Int)))<(b.length:Int))then if decide ((IntKind.wrap .i64 (d+(b.getD (Int.toNat (IntKind.wrap .i64 (c - (1:Int)))) (0:Int))))>=(1000000000:Int))then(S.a5f (e,b,f,IntKind.wrap .i64 (a - (1:Int)),())).bind fun y17=>if y17.1 then(S.a5g (splice e y17.2.1 (0:Nat),b,f,())).bind fun y18=>if decide ((0:Int)<=f)then if decide (f<(h.length:Int))then g11 (IntKind.wrap .i64 (f - (1:Int)),splice (splice e y17.2.1 (0:Nat)) y18.2.1 (0:Nat),c,b,h.set ((0:Nat)+f.toNat) (IntKind.wrap .i64 ((IntKind.wrap .i64 (a - (1:Int))) - (1:Int))),i,())else none else none else if decide ((0:Int)<=f)then if decide (f<(h.length:Int))then g11 (IntKind.wrap .i64 (f - (1:Int)),splice e y17.2.1 (0:Nat),c,b,h.set ((0:Nat)+f.toNat) (IntKind.wrap .i64 (a - (1:Int))),i,())else none else none else g14 (IntKind.wrap .i64 (a - (1:Int)),b,c,IntKind.wrap .i64 (d+(b.getD (Int.toNat (IntKind.wrap .i64 (c - (1:Int)))) (0:Int))),e,f,h,i,())else none else none else(S.a5f (e,b,f,a,())).bind fun y19=>if y19.1 then(S.a5g (splice e y19.2.1 (0:Nat),b,f,())).bind fun y20=>if decide ((0:Int)<=f)then if decide (f<(h.length:Int))then g11 (IntKind.wrap .i64 (f - (1:Int)),splice (splice e y19.2.1 (0:Nat)) y20.2.1 (0:Nat),c,b,h.set ((0:Nat)+f.toNat) (IntKind.wrap .i64 (a - (1:Int))),i,())else none else none else if decide ((0:Int)<=f)then if decide (f<(h.length:Int))then g11 (IntKind.wrap .i64 (f - (1:Int)),splice e y19.2.1 (0:Nat),c,b,h.set ((0:Nat)+f.toNat) a,i,())else none else none else none else none else none else none) x13.1 x13.2.2.1 x13.2.2.2.1 x13.2.2.2.2.2.1 x13.2.2.2.2.2.2.2.1 x13.2.1 x13.2.2.2.2.1 x13.2.2.2.2.2.2.1
abbrev P.a4m (k:Nat) (x10:s_l01NatDiv.B) (g11:s_l01NatDiv.B->s_l01NatDiv.C):s_l01NatDiv.C:=
 (fun(a c f:Int) (b d e:List Int)=>if decide (a>=(0:Int))then if decide ((0:Int)<=(IntKind.wrap .i64 (a+c)))then if decide ((IntKind.wrap .i64 (a+c))<(b.length:Int))then if decide ((0:Int)<=(IntKind.wrap .i64 ((IntKind.wrap .i64 (a+c)) - (1:Int))))then if decide ((IntKind.wrap .i64 ((IntKind.wrap .i64 (a+c)) - (1:Int)))<(b.length:Int))then if decide ((0:Int)<=(IntKind.wrap .i64 (c - (1:Int))))then if decide ((IntKind.wrap .i64 (c - (1:Int)))<(d.length:Int))then if decide ((d.getD (Int.toNat (IntKind.wrap .i64 (c - (1:Int)))) (0:Int))=(0:Int))then none else if decide ((0:Int)<=(IntKind.wrap .i64 (c - (1:Int))))then if decide ((IntKind.wrap .i64 (c - (1:Int)))<(d.length:Int))then if decide ((d.getD (Int.toNat (IntKind.wrap .i64 (c - (1:Int)))) (0:Int))=(0:Int))then none else loopP (P.b0d g11) k (IntKind.wrap .i64 (Int.tdiv (IntKind.wrap .i64 ((IntKind.wrap .i64 ((b.getD ((0:Nat)+(Int.toNat (IntKind.wrap .i64 (a+c)))) (0:Int))*(1000000000:Int)))+(b.getD ((0:Nat)+(Int.toNat (IntKind.wrap .i64 ((IntKind.wrap .i64 (a+c)) - (1:Int))))) (0:Int)))) (d.getD (Int.toNat (IntKind.wrap .i64 (c - (1:Int)))) (0:Int))),d,c,Int.tmod (IntKind.wrap .i64 ((IntKind.wrap .i64 ((b.getD ((0:Nat)+(Int.toNat (IntKind.wrap .i64 (a+c)))) (0:Int))*(1000000000:Int)))+(b.getD ((0:Nat)+(Int.toNat (IntKind.wrap .i64 ((IntKind.wrap .i64 (a+c)) - (1:Int))))) (0:Int)))) (d.getD (Int.toNat (IntKind.wrap .i64 (c - (1:Int)))) (0:Int)),b,a,e,f,())else none else none else none else none else none else none else none else none else(S.a3t (b,())).bind fun y21=>(S.a2r (y21.1,f,())).bind fun y22=>(S.a3t (e,())).bind fun y23=>some ((y23.1,y22.1.1),())) x10.1 x10.2.2.1 x10.2.2.2.2.2.1 x10.2.1 x10.2.2.2.1 x10.2.2.2.2.1
def P.c2m (k:Nat) (x:List Int×List Int×Unit):s_l01NatDiv.C:=
 (S.a7g (x.1,())).bind fun y0=>(S.a7g (x.2.1,())).bind fun y1=>if y0.1.2 then if y1.1.2 then if decide (y1.1.1=(0:Int))then none else(S.a7e (IntKind.wrap .i64 (Int.tdiv y0.1.1 y1.1.1),())).bind fun y2=>if decide (y1.1.1=(0:Int))then none else(S.a7e (Int.tmod y0.1.1 y1.1.1,())).bind fun y3=>some ((y2.1,y3.1),())else(S.a0n (x.1,x.2.1,())).bind fun y4=>if decide (y4.1<(0:Int))then if decide ((((0:Nat)+x.1.length)*(8:Nat))<=(140737488355328:Nat))then some ((([]:List Int),([]:List Int)++x.1),())else none else if(x.2.1.length:Int)==(1:Int)then if decide ((0:Int)<(x.2.1.length:Int))then(S.a2r (x.1,x.2.1.getD (0:Nat) (0:Int),())).bind fun y5=>(S.a7e (y5.1.2,())).bind fun y6=>some ((y5.1.1,y6.1),())else none else if decide ((0:Int)<=(IntKind.wrap .i64 ((x.2.1.length:Int) - (1:Int))))then if decide ((IntKind.wrap .i64 ((x.2.1.length:Int) - (1:Int)))<(x.2.1.length:Int))then if decide ((IntKind.wrap .i64 ((x.2.1.getD (Int.toNat (IntKind.wrap .i64 ((x.2.1.length:Int) - (1:Int)))) (0:Int))+(1:Int)))=(0:Int))then none else if decide ((0:Int)<=(IntKind.wrap .i64 ((x.1.length:Int)+(1:Int))))then if decide ((IntKind.wrap .i64 ((x.1.length:Int)+(1:Int)))<=(IntKind.wrap .i64 ((x.1.length:Int)+(1:Int))))then if decide (((IntKind.wrap .i64 ((x.1.length:Int)+(1:Int)))*(8:Int))<=(281474976710656:Int))then(S.a2a (x.1,IntKind.wrap .i64 (Int.tdiv (1000000000:Int) (IntKind.wrap .i64 ((x.2.1.getD (Int.toNat (IntKind.wrap .i64 ((x.2.1.length:Int) - (1:Int)))) (0:Int))+(1:Int)))),())).bind fun y7=>(S.a2a (x.2.1,IntKind.wrap .i64 (Int.tdiv (1000000000:Int) (IntKind.wrap .i64 ((x.2.1.getD (Int.toNat (IntKind.wrap .i64 ((x.2.1.length:Int) - (1:Int)))) (0:Int))+(1:Int)))),())).bind fun y8=>if decide ((0:Int)<=(IntKind.wrap .i64 ((List.length (splice (List.replicate (Int.toNat (IntKind.wrap .i64 ((x.1.length:Int)+(1:Int)))) (0:Int)) (List.take (List.length (List.replicate (Int.toNat (IntKind.wrap .i64 ((x.1.length:Int)+(1:Int)))) (0:Int))) y7.1) (0:Nat)):Int) - (y8.1.length:Int))))then if decide ((IntKind.wrap .i64 ((List.length (splice (List.replicate (Int.toNat (IntKind.wrap .i64 ((x.1.length:Int)+(1:Int)))) (0:Int)) (List.take (List.length (List.replicate (Int.toNat (IntKind.wrap .i64 ((x.1.length:Int)+(1:Int)))) (0:Int))) y7.1) (0:Nat)):Int) - (y8.1.length:Int)))<=(IntKind.wrap .i64 ((List.length (splice (List.replicate (Int.toNat (IntKind.wrap .i64 ((x.1.length:Int)+(1:Int)))) (0:Int)) (List.take (List.length (List.replicate (Int.toNat (IntKind.wrap .i64 ((x.1.length:Int)+(1:Int)))) (0:Int))) y7.1) (0:Nat)):Int) - (y8.1.length:Int))))then if decide (((IntKind.wrap .i64 ((List.length (splice (List.replicate (Int.toNat (IntKind.wrap .i64 ((x.1.length:Int)+(1:Int)))) (0:Int)) (List.take (List.length (List.replicate (Int.toNat (IntKind.wrap .i64 ((x.1.length:Int)+(1:Int)))) (0:Int))) y7.1) (0:Nat)):Int) - (y8.1.length:Int)))*(8:Int))<=(281474976710656:Int))then loopP (P.a4m k) k (IntKind.wrap .i64 ((IntKind.wrap .i64 ((List.length (splice (List.replicate (Int.toNat (IntKind.wrap .i64 ((x.1.length:Int)+(1:Int)))) (0:Int)) (List.take (List.length (List.replicate (Int.toNat (IntKind.wrap .i64 ((x.1.length:Int)+(1:Int)))) (0:Int))) y7.1) (0:Nat)):Int) - (y8.1.length:Int))) - (1:Int)),splice (List.replicate (Int.toNat (IntKind.wrap .i64 ((x.1.length:Int)+(1:Int)))) (0:Int)) (List.take (List.length (List.replicate (Int.toNat (IntKind.wrap .i64 ((x.1.length:Int)+(1:Int)))) (0:Int))) y7.1) (0:Nat),(y8.1.length:Int),y8.1,List.replicate (Int.toNat (IntKind.wrap .i64 ((List.length (splice (List.replicate (Int.toNat (IntKind.wrap .i64 ((x.1.length:Int)+(1:Int)))) (0:Int)) (List.take (List.length (List.replicate (Int.toNat (IntKind.wrap .i64 ((x.1.length:Int)+(1:Int)))) (0:Int))) y7.1) (0:Nat)):Int) - (y8.1.length:Int)))) (0:Int),IntKind.wrap .i64 (Int.tdiv (1000000000:Int) (IntKind.wrap .i64 ((x.2.1.getD (Int.toNat (IntKind.wrap .i64 ((x.2.1.length:Int) - (1:Int)))) (0:Int))+(1:Int)))),())else none else none else none else none else none else none else none else none else(S.a0n (x.1,x.2.1,())).bind fun y24=>if decide (y24.1<(0:Int))then if decide ((((0:Nat)+x.1.length)*(8:Nat))<=(140737488355328:Nat))then some ((([]:List Int),([]:List Int)++x.1),())else none else if(x.2.1.length:Int)==(1:Int)then if decide ((0:Int)<(x.2.1.length:Int))then(S.a2r (x.1,x.2.1.getD (0:Nat) (0:Int),())).bind fun y25=>(S.a7e (y25.1.2,())).bind fun y26=>some ((y25.1.1,y26.1),())else none else if decide ((0:Int)<=(IntKind.wrap .i64 ((x.2.1.length:Int) - (1:Int))))then if decide ((IntKind.wrap .i64 ((x.2.1.length:Int) - (1:Int)))<(x.2.1.length:Int))then if decide ((IntKind.wrap .i64 ((x.2.1.getD (Int.toNat (IntKind.wrap .i64 ((x.2.1.length:Int) - (1:Int)))) (0:Int))+(1:Int)))=(0:Int))then none else if decide ((0:Int)<=(IntKind.wrap .i64 ((x.1.length:Int)+(1:Int))))then if decide ((IntKind.wrap .i64 ((x.1.length:Int)+(1:Int)))<=(IntKind.wrap .i64 ((x.1.length:Int)+(1:Int))))then if decide (((IntKind.wrap .i64 ((x.1.length:Int)+(1:Int)))*(8:Int))<=(281474976710656:Int))then(S.a2a (x.1,IntKind.wrap .i64 (Int.tdiv (1000000000:Int) (IntKind.wrap .i64 ((x.2.1.getD (Int.toNat (IntKind.wrap .i64 ((x.2.1.length:Int) - (1:Int)))) (0:Int))+(1:Int)))),())).bind fun y27=>(S.a2a (x.2.1,IntKind.wrap .i64 (Int.tdiv (1000000000:Int) (IntKind.wrap .i64 ((x.2.1.getD (Int.toNat (IntKind.wrap .i64 ((x.2.1.length:Int) - (1:Int)))) (0:Int))+(1:Int)))),())).bind fun y28=>if decide ((0:Int)<=(IntKind.wrap .i64 ((List.length (splice (List.replicate (Int.toNat (IntKind.wrap .i64 ((x.1.length:Int)+(1:Int)))) (0:Int)) (List.take (List.length (List.replicate (Int.toNat (IntKind.wrap .i64 ((x.1.length:Int)+(1:Int)))) (0:Int))) y27.1) (0:Nat)):Int) - (y28.1.length:Int))))then if decide ((IntKind.wrap .i64 ((List.length (splice (List.replicate (Int.toNat (IntKind.wrap .i64 ((x.1.length:Int)+(1:Int)))) (0:Int)) (List.take (List.length (List.replicate (Int.toNat (IntKind.wrap .i64 ((x.1.length:Int)+(1:Int)))) (0:Int))) y27.1) (0:Nat)):Int) - (y28.1.length:Int)))<=(IntKind.wrap .i64 ((List.length (splice (List.replicate (Int.toNat (IntKind.wrap .i64 ((x.1.length:Int)+(1:Int)))) (0:Int)) (List.take (List.length (List.replicate (Int.toNat (IntKind.wrap .i64 ((x.1.length:Int)+(1:Int)))) (0:Int))) y27.1) (0:Nat)):Int) - (y28.1.length:Int))))then if decide (((IntKind.wrap .i64 ((List.length (splice (List.replicate (Int.toNat (IntKind.wrap .i64 ((x.1.length:Int)+(1:Int)))) (0:Int)) (List.take (List.length (List.replicate (Int.toNat (IntKind.wrap .i64 ((x.1.length:Int)+(1:Int)))) (0:Int))) y27.1) (0:Nat)):Int) - (y28.1.length:Int)))*(8:Int))<=(281474976710656:Int))then loopP (P.a4m k) k (IntKind.wrap .i64 ((IntKind.wrap .i64 ((List.length (splice (List.replicate (Int.toNat (IntKind.wrap .i64 ((x.1.length:Int)+(1:Int)))) (0:Int)) (List.take (List.length (List.replicate (Int.toNat (IntKind.wrap .i64 ((x.1.length:Int)+(1:Int)))) (0:Int))) y27.1) (0:Nat)):Int) - (y28.1.length:Int))) - (1:Int)),splice (List.replicate (Int.toNat (IntKind.wrap .i64 ((x.1.length:Int)+(1:Int)))) (0:Int)) (List.take (List.length (List.replicate (Int.toNat (IntKind.wrap .i64 ((x.1.length:Int)+(1:Int)))) (0:Int))) y27.1) (0:Nat),(y28.1.length:Int),y28.1,List.replicate (Int.toNat (IntKind.wrap .i64 ((List.length (splice (List.replicate (Int.toNat (IntKind.wrap .i64 ((x.1.length:Int)+(1:Int)))) (0:Int)) (List.take (List.length (List.replicate (Int.toNat (IntKind.wrap .i64 ((x.1.length:Int)+(1:Int)))) (0:Int))) y27.1) (0:Nat)):Int) - (y28.1.length:Int)))) (0:Int),IntKind.wrap .i64 (Int.tdiv (1000000000:Int) (IntKind.wrap .i64 ((x.2.1.getD (Int.toNat (IntKind.wrap .i64 ((x.2.1.length:Int) - (1:Int)))) (0:Int))+(1:Int)))),())else none else none else none else none else none else none else none else none
theorem nd_tail (g:(Int×((List Int)×(Int×((List Int)×((List Int)×(Int×Unit))))))->(Option (((List Int)×(List Int))×Unit))) (F:Option (((List Int)×(List Int))×Unit)) {u0 vs:List Int} {m j:Nat} {d:Int}
  (h0:dig B10 u0=true) (hv:dig B10 vs=true) (hN:u0.length=m+vs.length) (hbig:u0.length<=100000000000) (hj:j<m) (hV:0<a0c B10 vs)
  (hg:g ((j:Int) - 1,(ldU B10 (a0c B10 vs) u0 j,((vs.length:Int),(vs,(ldQ B10 (a0c B10 vs) u0 m j,(d,()))))))=F)
  (q:Nat) (hq:q<1000000000) (h1:ldW B10 (a0c B10 vs) u0 j/a0c B10 vs<=q) (h2:q*a0c B10 vs<ldW B10 (a0c B10 vs) u0 j+a0c B10 vs) (q':Int) (hq':q'=(q:Int)):
  (Option.bind (S.a5f (ldU B10 (a0c B10 vs) u0 (j+1),(vs,((j:Int),(q',()))))) (fun(y19:(Bool×((List Int)×Unit)))=>(if(y19.1=true)then(Option.bind (S.a5g ((Go.Cm.splice (ldU B10 (a0c B10 vs) u0 (j+1)) y19.2.1 (0:Nat)),(vs,((j:Int),())))) (fun(y20:(Unit×((List Int)×Unit)))=>(if((decide ((0:Int)<=(j:Int)))=true)then(if((decide ((j:Int)<((List.length (ldQ B10 (a0c B10 vs) u0 m (j+1))):Int)))=true)then(g ((IntKind.wrap .i64 ((j:Int) - (1:Int))),((Go.Cm.splice (Go.Cm.splice (ldU B10 (a0c B10 vs) u0 (j+1)) y19.2.1 (0:Nat)) y20.2.1 (0:Nat)),((vs.length:Int),(vs,((List.set (ldQ B10 (a0c B10 vs) u0 m (j+1)) ((0:Nat)+(Int.toNat (j:Int))) (IntKind.wrap .i64 (q' - (1:Int)))),(d,())))))))
 else none)
 else none)))
 else(if((decide ((0:Int)<=(j:Int)))=true)then(if((decide ((j:Int)<((List.length (ldQ B10 (a0c B10 vs) u0 m (j+1))):Int)))=true)then(g ((IntKind.wrap .i64 ((j:Int) - (1:Int))),((Go.Cm.splice (ldU B10 (a0c B10 vs) u0 (j+1)) y19.2.1 (0:Nat)),((vs.length:Int),(vs,((List.set (ldQ B10 (a0c B10 vs) u0 m (j+1)) ((0:Nat)+(Int.toNat (j:Int))) q'),(d,())))))))
 else none)
 else none))))=F:=by
 subst hq';have hhi:=a1p hv;have hA:(u0.take j).length=j:=by simp;omega
 have hQ:=ld_Q a0d hV h0 (show j<u0.length by omega) hj;have hQl:(ldQ B10 (a0c B10 vs) u0 m (j+1)).length=m:=by unfold ldQ;rw[List.length_append,List.length_replicate,a2x];omega
 have hUl:=d3z a0d hV h0 hN hj hhi;have hs:=ld_shape a0d hV h0 hN hj hhi;have hs':=ld_shape' a0d hV h0 hN hj hhi;generalize hn:vs.length=n at*;generalize hVV:a0c B10 vs=V at*;generalize hUU:ldW B10 V u0 j=U at*;generalize hR:List.replicate (m - 1 - j) (0:Int)=R at*;have hRl:R.length=m - 1 - j:=by rw[<-hR,List.length_replicate]
 have hUB:U/B10^n<1000000000:=by
  have:U/B10^n<B10:=by
   rw[Nat.div_lt_iff_lt_mul (Nat.pow_pos (by decide)),Nat.mul_comm,<-Nat.pow_succ];exact hUl
  exact this
 have hma:a0c B10 (fd B10 n U)+B10^n*(U/B10^n)=U:=by rw[b8m];exact Nat.mod_add_div _ _
 have hdm:=Nat.mod_add_div U V;have hml:=Nat.mod_lt U hV;obtain⟨n1,n2⟩:=near hV h1 h2;generalize U/B10^n=ut at*;generalize U/V=Q at*;generalize U%V=M at*;have e1:(0:Int)<=(j:Int):=by omega
 have e2:(j:Int)<(m:Int):=by omega
 rw[hs];have hlen:∀(T:Int) (X:Nat),((u0.take j++fd B10 n X)++T::R).length=j+n+1+R.length:=fun T X=>sh_len hA (a2x _ _ _)
 unfold S.a5f;dsimp only;simp only[Int.toNat_natCast,hn,hVV,hQl,e1,e2,decide_true,if_true,Nat.zero_add];rw[sh_take hA,sh_win hA (a2x _ _ _),sh_top hA (a2x _ _ _),sh_drop hA (a2x _ _ _),hlen];rw[if_pos ⟨by first|trivial|omega,by omega,b5u (by decide) _ _,hv,by omega,by omega,by omega,by omega,by omega⟩,Option.bind_some];dsimp only;rw[<-Int.natCast_mul,<-Int.natCast_add,hma]
 by_cases hle:q*V<=U
 ·have hqe:=n1 hle;have eT:(U:Int) - ((V*q:Nat):Int)=((M:Nat):Int)+((B10^n:Nat):Int)*0:=by
   rw[hqe];omega
  rw[eT,(b1x (Nat.lt_trans hml hhi) 0).1,(b1x (Nat.lt_trans hml hhi) 0).2,Int.toNat_natCast,if_neg (by simp),<-hs',b6w (by rw[hs',hlen,hlen]),hqe,hQ,wr (by omega) (by omega)];exact hg
 ·have hqe:=n2 (by omega);have hx:B10^n+M - V<B10^n:=by omega
  have eT:(U:Int) - ((V*q:Nat):Int)=((B10^n+M - V:Nat):Int)+((B10^n:Nat):Int)*(-1):=by
   rw[hqe,Nat.mul_add];omega
  rw[eT,(b1x hx (-1)).1,(b1x hx (-1)).2,Int.toNat_natCast,if_pos (by rfl),b6w (by rw[hlen,hlen])];unfold S.a5g;dsimp only;simp only[Int.toNat_natCast,hn,hVV];rw[sh_take hA,sh_win hA (a2x _ _ _),sh_top hA (a2x _ _ _),sh_drop hA (a2x _ _ _),hlen];rw[if_pos ⟨by first|trivial|omega,by omega,b5u (by decide) _ _,hv,by omega,by omega,by omega⟩,Option.bind_some];dsimp only;have eT2:((a0c B10 (fd B10 n (B10^n+M - V)):Nat):Int)+((B10^n:Nat):Int)* -1+(V:Int)=((M:Nat):Int)+((B10^n:Nat):Int)*0:=by
   rw[b8m,Nat.mod_eq_of_lt hx];omega
  rw[eT2,(b1x (Nat.lt_trans hml hhi) 0).1,(b1x (Nat.lt_trans hml hhi) 0).2,Int.toNat_natCast,<-hs',b6w (by rw[hs',hlen,hlen]),hqe,wr (x:=((Q+1:Nat):Int) - 1) (by omega) (by omega),show((Q+1:Nat):Int) - 1=((Q:Nat):Int) by omega,hQ,wr (by omega) (by omega)];exact hg
theorem nd_inner (g:(Int×((List Int)×(Int×((List Int)×((List Int)×(Int×Unit))))))->(Option (((List Int)×(List Int))×Unit))) (F:Option (((List Int)×(List Int))×Unit)) {u0 vs:List Int} {m j:Nat} {d:Int}
  (h0:dig B10 u0=true) (hv:dig B10 vs=true) (hN:u0.length=m+vs.length) (hbig:u0.length<=100000000000) (hj:j<m) (hn2:2<=vs.length) (hlo:B10^(vs.length - 1)<=a0c B10 vs)
  (hg:g ((j:Int) - 1,(ldU B10 (a0c B10 vs) u0 j,((vs.length:Int),(vs,(ldQ B10 (a0c B10 vs) u0 m j,(d,()))))))=F) (w:Nat):
  ∀q r k:Nat,q*(a0c B10 vs/B10^(vs.length - 1))+r=ldW B10 (a0c B10 vs) u0 j/B10^(vs.length - 1)->ldW B10 (a0c B10 vs) u0 j/a0c B10 vs<=q->r<1000000000->1000000000 - r<=w->w<k->q<=2000000000000000000->
  loopP (P.b0d g) k ((q:Int),(vs,((vs.length:Int),((r:Int),(ldU B10 (a0c B10 vs) u0 (j+1),((j:Int),(ldQ B10 (a0c B10 vs) u0 m (j+1),(d,()))))))))=F:=by
 have hV:0<a0c B10 vs:=Nat.lt_of_lt_of_le (Nat.pow_pos (by decide)) hlo;have hhi:=a1p hv;have hU:=ld_lt a0d hV h0 (show j<u0.length by omega);have win:=ld_win a0d hn2 hlo hhi hU;have htail:=fun q hq h1 h2 q' hq'=>nd_tail g F h0 hv hN hbig hj hV hg q hq h1 h2 q' hq'
 have g1:=c2y a0d hv (i:=vs.length - 1) (by omega);have g2:=c2y a0d hv (i:=vs.length - 2) (by omega);have g3:=d8a a0d hV h0 hN hj hhi (i:=vs.length - 2) (by omega);have hsl:(ldU B10 (a0c B10 vs) u0 (j+1)).length=m+vs.length:=by unfold ldU;rw[List.length_append,a2x,List.length_take];omega
 have hv1B:a0c B10 vs/B10^(vs.length - 1)<1000000000:=by
  have:a0c B10 vs/B10^(vs.length - 1)<B10:=by
   rw[Nat.div_lt_iff_lt_mul (Nat.pow_pos (by decide)),Nat.mul_comm,<-Nat.pow_succ,show(vs.length - 1).succ=vs.length by omega];exact hhi
  exact this
 have g1':a0c B10 vs/B10^(vs.length - 1)%B10=a0c B10 vs/B10^(vs.length - 1):=Nat.mod_eq_of_lt hv1B;rw[g1']at g1;have hv1:=win.hv1;generalize hX:ldW B10 (a0c B10 vs) u0 j/B10^(vs.length - 1)=X at*;generalize hv1e:a0c B10 vs/B10^(vs.length - 1)=v1 at*;have hv2B:a0c B10 vs/B10^(vs.length - 2)%B10<1000000000:=win.hv2;have hu2B:ldW B10 (a0c B10 vs) u0 j/B10^(vs.length - 2)%B10<1000000000:=win.hu2;generalize hv2e:a0c B10 vs/B10^(vs.length - 2)%B10=v2 at*;generalize hu2e:ldW B10 (a0c B10 vs) u0 j/B10^(vs.length - 2)%B10=u2 at*
 induction w with
 |zero=>intro q r k _ _ hr hw;omega
 |succ w ih=>
  intro q r k e hq hr hw hk hqb;obtain⟨k,rfl⟩:∃k',k=k'+1:=⟨k - 1,by omega⟩
  rw[a0l];unfold P.b0d;dsimp only;have c1:(0:Int)<=(vs.length:Int) - 1:=by omega
  have c2:(vs.length:Int) - 1<(vs.length:Int):=by omega
  have c3:(0:Int)<=(vs.length:Int) - 2:=by omega
  have c4:(vs.length:Int) - 2<(vs.length:Int):=by omega
  have c5:(0:Int)<=(j:Int)+(vs.length:Int) - 2:=by omega
  have c6:(j:Int)+(vs.length:Int) - 2<((m+vs.length:Nat):Int):=by omega
  rw[hsl,wr (x:=(vs.length:Int) - 1) (by omega) (by omega),wr (x:=(vs.length:Int) - 2) (by omega) (by omega),wr (x:=(j:Int)+(vs.length:Int)) (by omega) (by omega),wr (x:=(j:Int)+(vs.length:Int) - 2) (by omega) (by omega)];simp only[c1,c2,c3,c4,c5,c6,decide_true,if_true];rw[show((vs.length:Int) - 1).toNat=vs.length - 1 by omega,show((vs.length:Int) - 2).toNat=vs.length - 2 by omega,show 0+((j:Int)+(vs.length:Int) - 2).toNat=j+(vs.length - 2) by omega,g1,g2,g3,wr (x:=(r:Int)+(v1:Int)) (by omega) (by omega)];have hstep:ldW B10 (a0c B10 vs) u0 j/a0c B10 vs<q->((r:Int)+(v1:Int)>=1000000000->(q - 1)<1000000000/\ldW B10 (a0c B10 vs) u0 j/a0c B10 vs<=q - 1/\(q - 1)*a0c B10 vs<ldW B10 (a0c B10 vs) u0 j+a0c B10 vs/\IntKind.wrap .i64 ((q:Int) - 1)=((q - 1:Nat):Int))/\(¬((r:Int)+(v1:Int)>=1000000000)->loopP (P.b0d g) k (IntKind.wrap .i64 ((q:Int) - 1),(vs,((vs.length:Int),((r:Int)+(v1:Int),(ldU B10 (a0c B10 vs) u0 (j+1),((j:Int),(ldQ B10 (a0c B10 vs) u0 m (j+1),(d,()))))))))=F):=by
   intro hlt;have hq1:1<=q:=Nat.lt_of_le_of_lt (Nat.zero_le _) hlt;have eq1:IntKind.wrap .i64 ((q:Int) - 1)=((q - 1:Nat):Int):=by
    rw[wr (by omega) (by omega)];omega
   have e':(q - 1)*v1+(r+v1)=X:=by
    obtain⟨p,rfl⟩:∃p,q=p+1:=⟨q - 1,by omega⟩
    rw[Nat.add_mul,Nat.one_mul]at e;rw[Nat.add_sub_cancel];omega
   constructor
   ·intro hge;have hd:=win.done e' (.inr (show(1000000000:Nat)<=r+v1 by omega));exact⟨hd.1,by omega,hd.2,eq1⟩
   ·intro hge;rw[eq1,<-Int.natCast_add];exact ih (q - 1) (r+v1) k e' (by omega) (by omega) (by omega) (by omega) (by omega)
  by_cases b1:q>=1000000000
  ·rw[if_pos (decide_eq_true (by omega))];obtain⟨s1,s2⟩:=hstep (win.down e hq (.inl b1))
   by_cases b2:(r:Int)+(v1:Int)>=1000000000
   ·rw[if_pos (decide_eq_true b2)];obtain⟨t1,t2,t3,t4⟩:=s1 b2;exact htail (q - 1) t1 t2 t3 _ t4
   ·rw[if_neg (by simpa using b2)];exact s2 b2
  ·rw[if_neg (by simp;omega)];have hqv:q*v2<=999999999*999999999:=Nat.mul_le_mul (by omega) (by omega);rw[<-Int.natCast_mul,wr (x:=((q*v2:Nat):Int)) (by omega) (by omega),wr (x:=(r:Int)*1000000000) (by omega) (by omega),wr (x:=(r:Int)*1000000000+(u2:Int)) (by omega) (by omega)]
   by_cases b3:q*v2>r*1000000000+u2
   ·rw[if_pos (decide_eq_true (by omega))];obtain⟨s1,s2⟩:=hstep (win.down e hq (.inr b3))
    by_cases b2:(r:Int)+(v1:Int)>=1000000000
    ·rw[if_pos (decide_eq_true b2)];obtain⟨t1,t2,t3,t4⟩:=s1 b2;exact htail (q - 1) t1 t2 t3 _ t4
    ·rw[if_neg (by simpa using b2)];exact s2 b2
   ·rw[if_neg (by simp;omega)];have hd:=win.done e (.inl ⟨show q<B10 by show q<1000000000;omega,show q*v2<=r*B10+u2 by show q*v2<=r*1000000000+u2;omega⟩);exact htail q hd.1 hq hd.2 _ rfl
theorem nd_outer {u0 vs:List Int} {m d:Nat}
  (h0:dig B10 u0=true) (hv:dig B10 vs=true) (hN:u0.length=m+vs.length) (hbig:u0.length<=100000000000) (hn2:2<=vs.length) (hlo:B10^(vs.length - 1)<=a0c B10 vs) (hd:0<d) (hd1:d<=1000000000) (ht:a0c B10 (u0.drop m)<a0c B10 vs):
  loopP (P.a4m (m+1000000010)) (m+1000000010) ((m:Int) - 1,(u0,((vs.length:Int),(vs,(List.replicate m 0,((d:Int),()))))))=some ((nd B10 (a0c B10 u0/a0c B10 vs),nd B10 (a0c B10 u0%a0c B10 vs/d)),()):=by
 have hV:0<a0c B10 vs:=Nat.lt_of_lt_of_le (Nat.pow_pos (by decide)) hlo;have hhi:=a1p hv;obtain⟨f1,f2⟩:=ld_first a0d hV h0 (show m<=u0.length by omega) ht;have key:=a0f (k:=m+1000000010) (b:=P.a4m (m+1000000010)) (n:=m) (st:=fun i=>((m:Int) - 1 - (i:Int),ldU B10 (a0c B10 vs) u0 (m - i),(vs.length:Int),vs,ldQ B10 (a0c B10 vs) u0 m (m - i),(d:Int),())) (F:=fun i=>some ((nd B10 (a0c B10 u0/a0c B10 vs),nd B10 (a0c B10 u0%a0c B10 vs/d)),())) (fun i g hi hg=>by
  unfold P.a4m;dsimp only at hg ⊢;obtain⟨j,hj⟩:∃j,m - i=j+1:=⟨m - i - 1,by omega⟩
  have hjm:j<m:=by omega
  rw[show m - (i+1)=j by omega,show(m:Int) - 1 - ((i+1:Nat):Int)=(j:Int) - 1 by omega]at hg;rw[hj,show(m:Int) - 1 - (i:Int)=(j:Int) by omega];have hU:=ld_lt a0d hV h0 (show j<u0.length by omega);have win:=ld_win a0d hn2 hlo hhi hU;have g1:=c2y a0d hv (i:=vs.length - 1) (by omega);have g3:=d8a a0d hV h0 hN hjm hhi (i:=vs.length) (by omega);have g4:=d8a a0d hV h0 hN hjm hhi (i:=vs.length - 1) (by omega);have hsl:(ldU B10 (a0c B10 vs) u0 (j+1)).length=m+vs.length:=by unfold ldU;rw[List.length_append,a2x,List.length_take];omega
  have hv1B:a0c B10 vs/B10^(vs.length - 1)<1000000000:=by
   have:a0c B10 vs/B10^(vs.length - 1)<B10:=by
    rw[Nat.div_lt_iff_lt_mul (Nat.pow_pos (by decide)),Nat.mul_comm,<-Nat.pow_succ,show(vs.length - 1).succ=vs.length by omega];exact hhi
   exact this
  have g1':a0c B10 vs/B10^(vs.length - 1)%B10=a0c B10 vs/B10^(vs.length - 1):=Nat.mod_eq_of_lt hv1B;rw[g1']at g1;have hv1:=win.hv1;have hxlt:=win.xlt;have hstart:=win.start;have hUl:=d3z a0d hV h0 hN hjm hhi;have hinner:=nd_inner g _ h0 hv hN hbig hjm hn2 hlo hg 1000000000;have hXe:ldW B10 (a0c B10 vs) u0 j/B10^vs.length%B10*1000000000+ldW B10 (a0c B10 vs) u0 j/B10^(vs.length - 1)%B10=ldW B10 (a0c B10 vs) u0 j/B10^(vs.length - 1):=by
   have hq:ldW B10 (a0c B10 vs) u0 j/B10^vs.length<B10:=by
    rw[Nat.div_lt_iff_lt_mul (Nat.pow_pos (by decide)),Nat.mul_comm,<-Nat.pow_succ];exact hUl
   rw[Nat.mod_eq_of_lt hq];have e:B10^vs.length=B10^(vs.length - 1)*B10:=by rw[<-Nat.pow_succ];congr 1;omega
   rw[e,<-Nat.div_div_eq_div_mul,Nat.mul_comm];exact Nat.div_add_mod _ _
  have hu1:ldW B10 (a0c B10 vs) u0 j/B10^vs.length%B10<1000000000:=Nat.mod_lt _ (by decide);have hu0:ldW B10 (a0c B10 vs) u0 j/B10^(vs.length - 1)%B10<1000000000:=Nat.mod_lt _ (by decide);generalize hX:ldW B10 (a0c B10 vs) u0 j/B10^(vs.length - 1)=X at*;generalize hv1e:a0c B10 vs/B10^(vs.length - 1)=v1 at*;generalize ldW B10 (a0c B10 vs) u0 j/B10^vs.length%B10=ua at*;generalize X%B10=ub at*;have c0:(j:Int)>=0:=by omega
  have c1:(0:Int)<=(j:Int)+(vs.length:Int):=by omega
  have c2:(j:Int)+(vs.length:Int)<((m+vs.length:Nat):Int):=by omega
  have c3:(0:Int)<=(j:Int)+(vs.length:Int) - 1:=by omega
  have c4:(j:Int)+(vs.length:Int) - 1<((m+vs.length:Nat):Int):=by omega
  have c5:(0:Int)<=(vs.length:Int) - 1:=by omega
  have c6:(vs.length:Int) - 1<(vs.length:Int):=by omega
  have c7:¬((v1:Int)=0):=by omega
  rw[hsl,wr (x:=(vs.length:Int) - 1) (by omega) (by omega),wr (x:=(j:Int)+(vs.length:Int)) (by omega) (by omega),wr (x:=(j:Int)+(vs.length:Int) - 1) (by omega) (by omega)];rw[show((vs.length:Int) - 1).toNat=vs.length - 1 by omega,show 0+((j:Int)+(vs.length:Int)).toNat=j+vs.length by omega,show 0+((j:Int)+(vs.length:Int) - 1).toNat=j+(vs.length - 1) by omega,g1,g3,g4];simp only[c0,c1,c2,c3,c4,c5,c6,c7,decide_true,decide_false,if_true,if_false,Bool.false_eq_true];rw[wr (x:=(ua:Int)*1000000000) (by omega) (by omega),wr (x:=(ua:Int)*1000000000+(ub:Int)) (by omega) (by omega),show(ua:Int)*1000000000+(ub:Int)=(X:Int) by omega,Int.tdiv_eq_ediv_of_nonneg (by omega),Int.tmod_eq_emod_of_nonneg (by omega),<-Int.natCast_ediv,<-Int.natCast_emod];have hX18:X<=1000000000000000000:=by omega
  have hXd:X/v1<=X:=Nat.div_le_self _ _;have hml:=Nat.mod_lt X hv1;have hdm:X/v1*v1+X%v1=X:=by rw[Nat.mul_comm];exact Nat.div_add_mod _ _
  generalize X/v1=qq at*;generalize X%v1=rr at*;rw[wr (x:=(qq:Int)) (by omega) (by omega)];exact hinner qq rr (m+1000000010) hdm hstart (by omega) (by omega) (by omega) (by omega)) (fun g=>by
  unfold P.a4m;dsimp only;rw[if_neg (by simp;omega),Nat.sub_self];have hVN:a0c B10 vs<=B10^u0.length:=Nat.le_trans (Nat.le_of_lt hhi) (Nat.pow_le_pow_right (by decide) (by omega));obtain⟨l1,l2,l3,l4,l5,l6⟩:=ld_last a0d hV h0 (show m<=u0.length by omega) ht hVN;have hul:(nd B10 (a0c B10 u0%a0c B10 vs)).length<=u0.length:=by
   rw[a4j a0d,<-l1,<-l5];exact a1p l3
  unfold S.a3t S.a2r;dsimp only;rw[if_pos ⟨l3,by omega⟩,Option.bind_some];dsimp only;rw[l1,if_pos ⟨a3w a0d _,by omega,by omega,by omega⟩,Option.bind_some];dsimp only;rw[if_pos ⟨l4,by omega⟩,Option.bind_some,a0i a0d,l2,Int.toNat_natCast]) (by omega)
 rw[Nat.sub_zero,f1,f2]at key;rw[<-key,show(m:Int) - 1 - ((0:Nat):Int)=(m:Int) - 1 by omega]
theorem nd_rest (as bs:List Int) (ca:a2o B10 as=true) (cb:a2o B10 bs=true) (hne:bs≠ []) (la:as.length<=10000000000) (lb:bs.length<=10000000000) (hb0:a0c B10 bs≠0) (hlow:B10^(bs.length - 1)<=a0c B10 bs)
  (b:(Int×((List Int)×(Int×((List Int)×((List Int)×(Int×Unit))))))->((Int×((List Int)×(Int×((List Int)×((List Int)×(Int×Unit))))))->Option (((List Int)×(List Int))×Unit))->Option (((List Int)×(List Int))×Unit)) (hbb:b=P.a4m ((as.length+1 - bs.length)+1000000010)):
  (Option.bind (S.a0n (as,(bs,()))) (fun(y4:(Int×Unit))=>(if((decide (y4.1<(0:Int)))=true)then(if((decide ((((0:Nat)+(List.length as))*(8:Nat))<=(140737488355328:Nat)))=true)then(some ((([]:List Int),(([]:List Int)++as)),()))
 else none)
 else(if((((List.length bs):Int)==(1:Int))=true)then(if((decide ((0:Int)<((List.length bs):Int)))=true)then(Option.bind (S.a2r (as,((List.getD bs (0:Nat) (0:Int)),()))) (fun(y5:(((List Int)×Int)×Unit))=>(Option.bind (S.a7e (y5.1.2,())) (fun(y6:((List Int)×Unit))=>(some ((y5.1.1,y6.1),()))))))
 else none)
 else(if((decide ((0:Int)<=(IntKind.wrap .i64 (((List.length bs):Int) - (1:Int)))))=true)then(if((decide ((IntKind.wrap .i64 (((List.length bs):Int) - (1:Int)))<((List.length bs):Int)))=true)then(if((decide ((IntKind.wrap .i64 ((List.getD bs (Int.toNat (IntKind.wrap .i64 (((List.length bs):Int) - (1:Int)))) (0:Int))+(1:Int)))=(0:Int)))=true)then none
 else(if((decide ((0:Int)<=(IntKind.wrap .i64 (((List.length as):Int)+(1:Int)))))=true)then(if((decide ((IntKind.wrap .i64 (((List.length as):Int)+(1:Int)))<=(IntKind.wrap .i64 (((List.length as):Int)+(1:Int)))))=true)then(if((decide (((IntKind.wrap .i64 (((List.length as):Int)+(1:Int)))*(8:Int))<=(281474976710656:Int)))=true)then(Option.bind (S.a2a (as,((IntKind.wrap .i64 (Int.tdiv (1000000000:Int) (IntKind.wrap .i64 ((List.getD bs (Int.toNat (IntKind.wrap .i64 (((List.length bs):Int) - (1:Int)))) (0:Int))+(1:Int))))),()))) (fun(y7:((List Int)×Unit))=>(Option.bind (S.a2a (bs,((IntKind.wrap .i64 (Int.tdiv (1000000000:Int) (IntKind.wrap .i64 ((List.getD bs (Int.toNat (IntKind.wrap .i64 (((List.length bs):Int) - (1:Int)))) (0:Int))+(1:Int))))),()))) (fun(y8:((List Int)×Unit))=>(if((decide ((0:Int)<=(IntKind.wrap .i64 (((List.length (Go.Cm.splice (List.replicate (Int.toNat (IntKind.wrap .i64 (((List.length as):Int)+(1:Int)))) (0:Int)) (List.take (List.length (List.replicate (Int.toNat (IntKind.wrap .i64 (((List.length as):Int)+(1:Int)))) (0:Int))) y7.1) (0:Nat))):Int) - ((List.length y8.1):Int)))))=true)then(if((decide ((IntKind.wrap .i64 (((List.length (Go.Cm.splice (List.replicate (Int.toNat (IntKind.wrap .i64 (((List.length as):Int)+(1:Int)))) (0:Int)) (List.take (List.length (List.replicate (Int.toNat (IntKind.wrap .i64 (((List.length as):Int)+(1:Int)))) (0:Int))) y7.1) (0:Nat))):Int) - ((List.length y8.1):Int)))<=(IntKind.wrap .i64 (((List.length (Go.Cm.splice (List.replicate (Int.toNat (IntKind.wrap .i64 (((List.length as):Int)+(1:Int)))) (0:Int)) (List.take (List.length (List.replicate (Int.toNat (IntKind.wrap .i64 (((List.length as):Int)+(1:Int)))) (0:Int))) y7.1) (0:Nat))):Int) - ((List.length y8.1):Int)))))=true)then(if((decide (((IntKind.wrap .i64 (((List.length (Go.Cm.splice (List.replicate (Int.toNat (IntKind.wrap .i64 (((List.length as):Int)+(1:Int)))) (0:Int)) (List.take (List.length (List.replicate (Int.toNat (IntKind.wrap .i64 (((List.length as):Int)+(1:Int)))) (0:Int))) y7.1) (0:Nat))):Int) - ((List.length y8.1):Int)))*(8:Int))<=(281474976710656:Int)))=true)then(Go.Cm.loopP (X:=(Int×((List Int)×(Int×((List Int)×((List Int)×(Int×Unit))))))) (R:=(((List Int)×(List Int))×Unit)) b ((as.length+1 - bs.length)+1000000010) ((IntKind.wrap .i64 ((IntKind.wrap .i64 (((List.length (Go.Cm.splice (List.replicate (Int.toNat (IntKind.wrap .i64 (((List.length as):Int)+(1:Int)))) (0:Int)) (List.take (List.length (List.replicate (Int.toNat (IntKind.wrap .i64 (((List.length as):Int)+(1:Int)))) (0:Int))) y7.1) (0:Nat))):Int) - ((List.length y8.1):Int))) - (1:Int))),((Go.Cm.splice (List.replicate (Int.toNat (IntKind.wrap .i64 (((List.length as):Int)+(1:Int)))) (0:Int)) (List.take (List.length (List.replicate (Int.toNat (IntKind.wrap .i64 (((List.length as):Int)+(1:Int)))) (0:Int))) y7.1) (0:Nat)),(((List.length y8.1):Int),(y8.1,((List.replicate (Int.toNat (IntKind.wrap .i64 (((List.length (Go.Cm.splice (List.replicate (Int.toNat (IntKind.wrap .i64 (((List.length as):Int)+(1:Int)))) (0:Int)) (List.take (List.length (List.replicate (Int.toNat (IntKind.wrap .i64 (((List.length as):Int)+(1:Int)))) (0:Int))) y7.1) (0:Nat))):Int) - ((List.length y8.1):Int)))) (0:Int)),((IntKind.wrap .i64 (Int.tdiv (1000000000:Int) (IntKind.wrap .i64 ((List.getD bs (Int.toNat (IntKind.wrap .i64 (((List.length bs):Int) - (1:Int)))) (0:Int))+(1:Int))))),())))))))
 else none)
 else none)
 else none)))))
 else none)
 else none)
 else none))
 else none)
 else none)))))=some ((nd B10 (a0c B10 as/a0c B10 bs),nd B10 (a0c B10 as%a0c B10 bs)),()):=by
 subst hbb;have da:=a1s ca;have db:=a1s cb;have hbpos:0<bs.length:=List.length_pos_iff.2 hne;have hhib:=a1p db;have hhia:=a1p da;have sc:S.a0n (as,(bs,()))=some (b1i (a0c B10 as) (a0c B10 bs),()):=by
  unfold S.a0n;exact if_pos ⟨ca,cb,by dsimp only;omega⟩
 rw[sc,Option.bind_some];dsimp only
 by_cases hlt:a0c B10 as<a0c B10 bs
 ·have q1:(0+as.length)*8<=140737488355328:=by omega
  rw[if_pos (decide_eq_true (c2z.2 hlt)),if_pos (decide_eq_true q1),Nat.div_eq_of_lt hlt,Nat.mod_eq_of_lt hlt,a1v a0d,a1h ca,List.nil_append]
 ·rw[if_neg (by simpa [c2z]using hlt)]
  by_cases h1:bs.length=1
  ·obtain⟨b0,rfl⟩:∃b0,bs=[b0]:=by
    match bs,h1 with
    | [b0],_=>exact⟨b0,rfl⟩
   rw[if_pos (by rfl),if_pos (by rfl)];have hb:a0c B10 [b0]=b0.toNat:=by simp [a0c]
   have hbd:=(a2h _ _).1 db;have hbd1:b0<1000000000:=hbd.1.2;rw[hb]at hb0 ⊢;show Option.bind (S.a2r (as,(b0,()))) _=_;unfold S.a2r S.a7e;dsimp only;have hm:=Nat.mod_lt (a0c B10 as) (show 0<b0.toNat by omega);rw[if_pos ⟨da,by omega,by omega,by omega⟩,Option.bind_some];dsimp only;rw[if_pos ⟨by omega,by omega⟩,Option.bind_some,Int.toNat_natCast]
  ·rw[if_neg (by simp;omega)];have hn2:2<=bs.length:=by omega
   have c1:(0:Int)<=(bs.length:Int) - 1:=by omega
   have c2:(bs.length:Int) - 1<(bs.length:Int):=by omega
   have c3:(0:Int)<=(as.length:Int)+1:=by omega
   have c4:((as.length:Int)+1)*8<=281474976710656:=by omega
   have hbtB:a0c B10 bs/B10^(bs.length - 1)<1000000000:=by
    have:a0c B10 bs/B10^(bs.length - 1)<B10:=by
     rw[Nat.div_lt_iff_lt_mul (Nat.pow_pos (by decide)),Nat.mul_comm,<-Nat.pow_succ,show(bs.length - 1).succ=bs.length by omega];exact hhib
    exact this
   have hbt0:0<a0c B10 bs/B10^(bs.length - 1):=Nat.div_pos hlow (Nat.pow_pos (by decide));have g1:=c2y a0d db (i:=bs.length - 1) (by omega);rw[show a0c B10 bs/B10^(bs.length - 1)%B10=a0c B10 bs/B10^(bs.length - 1)from Nat.mod_eq_of_lt hbtB]at g1;have hbt1:a0c B10 bs<(a0c B10 bs/B10^(bs.length - 1)+1)*B10^(bs.length - 1):=by
    have:=Nat.lt_div_mul_add (show 0<B10^(bs.length - 1)from Nat.pow_pos (by decide)) (a:=a0c B10 bs);rw[Nat.add_mul,Nat.one_mul];exact this
   generalize hbt:a0c B10 bs/B10^(bs.length - 1)=bt at*;have c5:¬((bt:Int)+1=0):=by omega
   rw[wr (x:=(bs.length:Int) - 1) (by omega) (by omega),wr (x:=(as.length:Int)+1) (by omega) (by omega),show((bs.length:Int) - 1).toNat=bs.length - 1 by omega,g1,wr (x:=(bt:Int)+1) (by omega) (by omega)];simp only[c1,c2,c3,c4,c5,decide_true,decide_false,if_true,if_false,Bool.false_eq_true,Int.le_refl];rw[Int.tdiv_eq_ediv_of_nonneg (by omega),show(1000000000:Int)/((bt:Int)+1)=((1000000000/(bt+1):Nat):Int) by rw[Int.natCast_ediv];rfl];have hd0:0<1000000000/(bt+1):=Nat.div_pos (by omega) (by omega);have hd1:1000000000/(bt+1)<=1000000000:=Nat.div_le_self _ _;have hd2:(bt+1)*(1000000000/(bt+1))<=B10:=Nat.mul_div_le _ _;generalize 1000000000/(bt+1)=d at*;rw[wr (x:=(d:Int)) (by omega) (by omega)];have m1:S.a2a (as,((d:Int),()))=some (nd B10 (a0c B10 as*d),()):=by
    unfold S.a2a;exact if_pos ⟨ca,by dsimp only;omega,by dsimp only;omega,by dsimp only;omega⟩
   have m2:S.a2a (bs,((d:Int),()))=some (nd B10 (a0c B10 bs*d),()):=by
    unfold S.a2a;exact if_pos ⟨cb,by dsimp only;omega,by dsimp only;omega,by dsimp only;omega⟩
   rw[m1,Option.bind_some,m2,Option.bind_some];dsimp only;have hvhi:a0c B10 bs*d<B10^bs.length:=by
    have h3:a0c B10 bs*d<(bt+1)*B10^(bs.length - 1)*d:=Nat.mul_lt_mul_of_pos_right hbt1 hd0;have h4:(bt+1)*B10^(bs.length - 1)*d=(bt+1)*d*B10^(bs.length - 1):=by ac_rfl
    have h5:(bt+1)*d*B10^(bs.length - 1)<=B10*B10^(bs.length - 1):=Nat.mul_le_mul_right _ hd2;have h6:B10*B10^(bs.length - 1)=B10^bs.length:=by rw[Nat.mul_comm,<-Nat.pow_succ];congr 1;omega
    omega
   have hvlo:B10^(bs.length - 1)<=a0c B10 bs*d:=Nat.le_trans hlow (Nat.le_mul_of_pos_right _ hd0);have hvl:(nd B10 (a0c B10 bs*d)).length=bs.length:=by
    have h3:=(a4j a0d (a0c B10 bs*d) bs.length).2 hvhi;have h4:=a4j a0d (a0c B10 bs*d) (bs.length - 1);have h5:¬(nd B10 (a0c B10 bs*d)).length<=bs.length - 1:=by
     rw[h4];omega
    omega
   have hal:(nd B10 (a0c B10 as*d)).length<=as.length+1:=by
    rw[a4j a0d,Nat.pow_succ];exact Nat.lt_of_lt_of_le (Nat.mul_lt_mul_of_pos_right hhia hd0) (Nat.mul_le_mul_left _ hd1)
   have hab:bs.length<=as.length:=by
    rcases Nat.lt_or_ge as.length bs.length with g|g
    ·have:=b1j a0d ca cb g;omega
    ·exact g
   have hdv:a0c B10 (nd B10 (a0c B10 as*d))=a0c B10 as*d:=a0i a0d _;have hdw:a0c B10 (nd B10 (a0c B10 bs*d))=a0c B10 bs*d:=a0i a0d _;have hdu:=a3w a0d (a0c B10 as*d);have hdv':=a3w a0d (a0c B10 bs*d);generalize nd B10 (a0c B10 as*d)=ys at*;generalize nd B10 (a0c B10 bs*d)=vs at*;have hsp:Go.Cm.splice (List.replicate ((as.length:Int)+1).toNat (0:Int)) (List.take (List.length (List.replicate ((as.length:Int)+1).toNat (0:Int))) ys) 0=ys++List.replicate (as.length+1 - ys.length) 0:=by
    rw[List.length_replicate,show((as.length:Int)+1).toNat=as.length+1 by omega,List.take_of_length_le hal];unfold splice;rw[List.take_zero,List.nil_append,Nat.zero_add,List.drop_replicate]
   rw[hsp];have hu0:a0c B10 (ys++List.replicate (as.length+1 - ys.length) 0)=a0c B10 as*d:=by rw[dval_zeros,hdv]
   have hul:(ys++List.replicate (as.length+1 - ys.length) 0).length=(as.length+1 - bs.length)+vs.length:=by
    rw[List.length_append,List.length_replicate];omega
   have hud:dig B10 (ys++List.replicate (as.length+1 - ys.length) 0)=true:=by
    rw[a1o,hdu,Bool.true_and];unfold dig;rw[List.all_eq_true];intro x hx;rw[List.eq_of_mem_replicate hx];decide
   generalize ys++List.replicate (as.length+1 - ys.length) 0=u0 at*;have ht:a0c B10 (u0.drop (as.length+1 - bs.length))<a0c B10 bs*d:=ld_top (n:=vs.length) a0d hud hu0 hd0 hul (by rw[show as.length+1 - bs.length+vs.length - 1=as.length by omega];exact hhia) (by omega) (by rw[hvl];exact hlow);have hmain:=nd_outer (m:=as.length+1 - bs.length) (d:=d) hud hdv' hul (by omega) (by omega) (by rw[hvl,hdw];exact hvlo) hd0 hd1 (by rw[hdw];exact ht);have e9:((u0.length:Int) - (vs.length:Int))=((as.length+1 - bs.length:Nat):Int):=by omega
   have c6:(0:Int)<=((as.length+1 - bs.length:Nat):Int):=by omega
   have c7:((as.length+1 - bs.length:Nat):Int)*8<=281474976710656:=by omega
   rw[e9,wr (x:=((as.length+1 - bs.length:Nat):Int)) (by omega) (by omega),wr (x:=((as.length+1 - bs.length:Nat):Int) - 1) (by omega) (by omega)];simp only[c6,c7,decide_true,if_true,Int.toNat_natCast];rw[hmain,hu0,hdw,Nat.mul_div_mul_right _ _ hd0,Nat.mul_mod_mul_right,Nat.mul_div_cancel _ hd0]
def S.a4n (x:((List Int)×((List Int)×Unit))):(Option (((List Int)×(List Int))×Unit)):=if a2o B10 x.1=true/\a2o B10 x.2.1=true/\x.2.1≠ []/\x.1.length<=10000000000/\x.2.1.length<=10000000000 then some ((nd B10 (a0c B10 x.1/a0c B10 x.2.1),nd B10 (a0c B10 x.1%a0c B10 x.2.1)),())else none
theorem S.d5k (x r) (h:S.a4n x=some r):∃k,P.c2m k x=some r:=by
 obtain⟨as,bs,u⟩:=x;unfold S.a4n at h;dsimp only at h;split at h
 case isFalse=>cases h
 rename_i hc;obtain⟨ca,cb,hne,la,lb⟩:=hc;cases h;have da:=a1s ca;have db:=a1s cb;have hbpos:0<bs.length:=List.length_pos_iff.2 hne;have hb0:a0c B10 bs≠0:=by
  intro q;have:=a1h cb;rw[q,a1v a0d]at this;exact hne this.symm
 have hlow:=nd_low a0d hb0;rw[a1h cb]at hlow;have hhib:=a1p db;have hhia:=a1p da;have sa:S.a7g (as,())=some ((if as.length<=2 then((a0c B10 as:Nat):Int)else 0,decide (as.length<=2)),()):=by
  unfold S.a7g;exact if_pos ⟨da,by dsimp only;omega⟩
 have sb:S.a7g (bs,())=some ((if bs.length<=2 then((a0c B10 bs:Nat):Int)else 0,decide (bs.length<=2)),()):=by
  unfold S.a7g;exact if_pos ⟨db,by dsimp only;omega⟩
 have sc:S.a0n (as,(bs,()))=some (b1i (a0c B10 as) (a0c B10 bs),()):=by
  unfold S.a0n;exact if_pos ⟨ca,cb,by dsimp only;omega⟩
 refine⟨(as.length+1 - bs.length)+1000000010,?_⟩;unfold P.c2m;dsimp only;rw[sa,Option.bind_some,sb,Option.bind_some];dsimp only;have hsmall:∀xs:List Int,dig B10 xs=true->xs.length<=2->a0c B10 xs<1000000000000000000:=by
  intro xs hd hl;have h1:=a1p hd;have h2:B10^xs.length<=B10^2:=Nat.pow_le_pow_right (by decide) hl;have h3:B10^2=1000000000000000000:=rfl;omega
 by_cases c1:as.length<=2
 ·by_cases c2:bs.length<=2
  ·have s1:=hsmall as da c1;have s2:=hsmall bs db c2;have hz:¬(((a0c B10 bs:Nat):Int)=0):=by omega
   simp only[c1,c2,hz,decide_true,decide_false,if_true,if_false,Bool.false_eq_true];rw[Int.tdiv_eq_ediv_of_nonneg (by omega),Int.tmod_eq_emod_of_nonneg (by omega),<-Int.natCast_ediv,<-Int.natCast_emod];have hq:=Nat.div_le_self (a0c B10 as) (a0c B10 bs);have hm:=Nat.mod_le (a0c B10 as) (a0c B10 bs);generalize a0c B10 as/a0c B10 bs=Q at*;generalize a0c B10 as%a0c B10 bs=M at*;rw[wr (by omega) (by omega)];unfold S.a7e;dsimp only;rw[if_pos ⟨by omega,by omega⟩,Option.bind_some,if_pos ⟨by omega,by omega⟩,Option.bind_some,Int.toNat_natCast,Int.toNat_natCast]
  ·rw[if_pos (decide_eq_true c1),if_neg (by simpa using c2)];exact nd_rest as bs ca cb hne la lb hb0 hlow _ rfl
 ·rw[if_neg (by simpa using c1)];exact nd_rest as bs ca cb hne la lb hb0 hlow _ rfl
abbrev P.b7y (x1:List Int×List Int×Unit) (g2:List Int×List Int×Unit->Option (List Int×Unit)):Option (List Int×Unit):=
 if decide ((x1.1.length:Int)>(0:Int))then(S.a4n (x1.2.1,x1.1,())).bind fun y3=>g2 (y3.1.2,x1.1,())else some (x1.2.1,())
def P.d9t (k:Nat) (x:List Int×List Int×Unit):Option (List Int×Unit):=
 loopP P.b7y k (x.2.1,x.1,())
theorem canon_pos {B:Nat} (hB:2<=B) {xs:List Int} (h:a2o B xs=true) (hn:xs≠ []):a0c B xs≠0:=by
 intro q;have:=a1h h;rw[q,a1v hB]at this;exact hn this.symm
theorem nd_shorter {B:Nat} (hB:2<=B) {m n:Nat} (h:m<=n):(nd B m).length<=(nd B n).length:=by
 rw[a4j hB];exact Nat.lt_of_le_of_lt h ((a4j hB n _).1 (Nat.le_refl _))
theorem sg_loop (n:Nat):∀(as bs:List Int) (k:Nat),a2o B10 as=true->a2o B10 bs=true->as.length<=10000000000->bs.length<=10000000000->a0c B10 bs<=n->n<k->loopP P.b7y k (bs,(as,()))=some (nd B10 (Nat.gcd (a0c B10 as) (a0c B10 bs)),()):=by
 induction n using Nat.strongRecOn with
 |ind n ih=>
  intro as bs k ca cb la lb hn hk;obtain⟨k,rfl⟩:∃j,k=j+1:=⟨k - 1,by omega⟩
  rw[a0l];unfold P.b7y;dsimp only
  by_cases hb:bs=[]
  ·subst hb;rw[if_neg (by simp),show a0c B10 []=0 from rfl,Nat.gcd_zero_right,a1h ca]
  ·have hpos:0<bs.length:=List.length_pos_iff.2 hb;have hb0:=canon_pos a0d cb hb;have hm:=Nat.mod_lt (a0c B10 as) (show 0<a0c B10 bs by omega);have hc:(bs.length:Int)>0:=by omega
   rw[if_pos (decide_eq_true hc)];show Option.bind (S.a4n (as,(bs,()))) (fun y3=>loopP P.b7y k (y3.1.2,(bs,())))=_;unfold S.a4n;dsimp only;rw[if_pos ⟨ca,cb,hb,la,lb⟩,Option.bind_some];dsimp only;have hl:(nd B10 (a0c B10 as%a0c B10 bs)).length<=bs.length:=by
    have:=nd_shorter a0d (Nat.le_of_lt hm);rwa [a1h cb]at this
   have hd:a0c B10 (nd B10 (a0c B10 as%a0c B10 bs))=a0c B10 as%a0c B10 bs:=a0i a0d _;rw[ih (a0c B10 as%a0c B10 bs) (by omega) bs (nd B10 (a0c B10 as%a0c B10 bs)) k cb (a0m a0d _) lb (by omega) (by rw[hd];exact Nat.le_refl _) (by omega),hd,e2e]
def S.a3b (x:((List Int)×((List Int)×Unit))):(Option ((List Int)×Unit)):=if a2o B10 x.1=true/\a2o B10 x.2.1=true/\x.1.length<=10000000000/\x.2.1.length<=10000000000 then some (nd B10 (Nat.gcd (a0c B10 x.1) (a0c B10 x.2.1)),())else none
theorem S.s_l01Gcd_ok (x r) (h:S.a3b x=some r):∃k,P.d9t k x=some r:=by
 obtain⟨as,bs,u⟩:=x;unfold S.a3b at h;dsimp only at h;split at h
 case isFalse=>cases h
 rename_i hc;obtain⟨ca,cb,la,lb⟩:=hc;cases h;refine⟨a0c B10 bs+1,?_⟩;unfold P.d9t;exact sg_loop (a0c B10 bs) as bs _ ca cb la lb (Nat.le_refl _) (by omega)
abbrev s_l01NatRead.A:=Int×ByteArray×List Int×Unit
abbrev P.a3v (g2:s_l01NatRead.A->Option (List Int×Unit)) (x4:Int×Int×s_l01NatRead.A) (g5:Int×Int×s_l01NatRead.A->Option (List Int×Unit)):Option (List Int×Unit):=
 (fun(a b c:Int) (d:ByteArray) (e:List Int)=>if decide (a<b)then if decide (0<=a)then if decide (a<(d.size:Int))then g5 (wrap .i64 (a+1),b,wrap .i64 ((wrap .i64 (10*c))+(wrap .i64 (wrap .u8 ((a2e d a) - 48)))),d,e,())else none else none else if decide (((e.length+(List.length [c]))*8)<=140737488355328)then g2 (wrap .i64 (b - 9),d,e++[c],())else none) x4.1 x4.2.1 x4.2.2.1 x4.2.2.2.1 x4.2.2.2.2.1
abbrev P.a6s (k:Nat) (x1:s_l01NatRead.A) (g2:s_l01NatRead.A->Option (List Int×Unit)):Option (List Int×Unit):=
 if decide (x1.1>0)then if decide (x1.1>9)then loopP (P.a3v g2) k (wrap .i64 (x1.1 - 9),x1.1,0,x1.2.1,x1.2.2.1,())else loopP (P.a3v g2) k (0,x1.1,0,x1.2.1,x1.2.2.1,())else(S.a3t (x1.2.2.1,())).bind fun y9=>some (y9.1,())
def P.b9v (k:Nat) (x:ByteArray×Unit):Option (List Int×Unit):=
 loopP (P.a6s k) k ((x.1.size:Int),x.1,[],())
theorem sr_inner (g) (s:ByteArray) (l:List UInt8) (hL:s.data.toList=l) (hd:c0l l=true) (a n:Nat) (hn:n<=9) (han:a+n<=l.length) (hl:l.length<=1000000000) (out:List Int) (ho:out.length<=1000000000) (k:Nat) (hk:n<k):
  loopP (P.a3v g) k ((a:Int),(((a+n:Nat):Int),((0:Int),(s,(out,())))))=g (((a+n:Nat):Int) - 9,(s,(out++[((dv ((l.drop a).take n):Nat):Int)],()))):=by
 have hs:s.size=l.length:=by rw[<-hL,Array.length_toList];rfl
 have key:=a0f (k:=k) (b:=P.a3v g) (n:=n) (st:=fun i=>(((a+i:Nat):Int),((a+n:Nat):Int),((dv ((l.drop a).take i):Nat):Int),s,out,())) (F:=fun i=>g (((a+n:Nat):Int) - 9,(s,(out++[((dv ((l.drop a).take n):Nat):Int)],())))) (fun i g' hi hg'=>by
  unfold P.a3v;dsimp only at hg' ⊢;refine Eq.trans ?_ hg';have hi2:i<(l.drop a).length:=by rw[List.length_drop];omega
  have e1:((a+i:Nat):Int)<((a+n:Nat):Int):=by omega
  have e2:(0:Int)<=((a+i:Nat):Int):=by omega
  have e3:((a+i:Nat):Int)<(l.length:Int):=by omega
  have hb:a2e s ((a+i:Nat):Int)=(((l.drop a)[i]).toNat:Int):=by
   unfold a2e;rw[hL,a0o l (a+i) _ (by omega),List.getElem_drop]
  have hc:=allD_get (c4s hd a) hi2;have hv:=dv_lt (d4c (c4s hd a) i);have hp:10^((l.drop a).take i).length<=10^9:=Nat.pow_le_pow_right (by decide) (by simp;omega);have hp9:(10:Nat)^9=1000000000:=by decide
  rw[hs,hb,wr (x:=((a+i:Nat):Int)+1) (by omega) (by omega)];simp only[e1,e2,e3,decide_true,if_true];rw[<-List.take_append_getElem hi2,dv_snoc];generalize (l.drop a)[i].toNat=c at*;generalize dv ((l.drop a).take i)=v at*;have h8:IntKind.wrap .u8 ((c:Int) - 48)=(c:Int) - 48:=IntWalk.u8_in _ (by omega);rw[h8,wr (x:=(c:Int) - 48) (by omega) (by omega),wr (x:=10*(v:Int)) (by omega) (by omega),wr (x:=10*(v:Int)+((c:Int) - 48)) (by omega) (by omega),show 10*(v:Int)+((c:Int) - 48)=((10*v+(c - 48):Nat):Int) by omega];rfl) (fun g'=>by
  unfold P.a3v;dsimp only;have hcap:(out.length+ [((dv ((l.drop a).take n):Nat):Int)].length)*8<=140737488355328:=by
   rw[List.length_singleton];omega
  rw[if_neg (by simp),if_pos (decide_eq_true hcap),wr (by omega) (by omega)]) hk
 exact key
theorem sr_outer (s:ByteArray) (l:List UInt8) (hL:s.data.toList=l) (hd:c0l l=true) (hl:l.length<=1000000000) (K:Nat) (hK:9<K) (n:Nat):∀(to:Int) (out:List Int) (k:Nat),to<=(n:Int)-> -9<=to->to<=(l.length:Int)->n<k->dig B10 out=true->out.length+n<=l.length->a0c B10 out+B10^out.length*dv (l.take to.toNat)=dv l->
  loopP (P.a6s K) k (to,(s,(out,())))=some (nd B10 (dv l),()):=by
 induction n using Nat.strongRecOn with
 |ind n ih=>
  intro to out k hto hlo htl hk hdo hol hv;obtain⟨k,rfl⟩:∃j,k=j+1:=⟨k - 1,by omega⟩
  rw[a0l];unfold P.a6s;dsimp only
  by_cases h0:to>0
  ·rw[if_pos (decide_eq_true h0)];obtain⟨m,rfl⟩:∃m:Nat,to=(m:Int):=⟨to.toNat,by omega⟩
   rw[Int.toNat_natCast]at hv;have hB9:B10=10^9:=by decide
   have hstep:∀a c:Nat,c<=9->a+c=m->(c=9\/a=0)->loopP (P.a3v (loopP (P.a6s K) k)) K ((a:Int),((m:Int),((0:Int),(s,(out,())))))=some (nd B10 (dv l),()):=by
    intro a c hc9 hm hor;have hin:=sr_inner (loopP (P.a6s K) k) s l hL hd a c hc9 (by omega) hl out (by omega) K (by omega);rw[hm]at hin;rw[hin];have htk:l.take m=l.take a++(l.drop a).take c:=by rw[<-hm,List.take_add]
    have hpc:((l.drop a).take c).length=c:=by simp;omega
    have hpd:=dv_lt (d4c (c4s hd a) c);rw[hpc]at hpd;have hp9:10^c<=10^9:=Nat.pow_le_pow_right (by decide) hc9;have hpB:dv ((l.drop a).take c)<B10:=by rw[hB9];omega
    have hta:l.take ((m:Int) - 9).toNat=l.take a:=by
     rcases hor with g|g
     ·rw[show((m:Int) - 9).toNat=a by omega]
     ·subst g;rw[show((m:Int) - 9).toNat=0 by omega]
    refine ih (n - 1) (by omega) _ _ k (by omega) (by omega) (by omega) (by omega) ?_ (by rw[List.length_append,List.length_singleton];omega) ?_
    ·rw[a1o,hdo,Bool.true_and,a2h];exact⟨⟨by omega,by omega⟩,rfl⟩
    ·rw[hta,a1a,List.length_append,List.length_singleton,Nat.pow_succ,<-hv,htk,c4r,hpc];have e1:a0c B10 [((dv ((l.drop a).take c):Nat):Int)]=dv ((l.drop a).take c):=by rw[a0c,Int.toNat_natCast];rfl
     rw[e1];rcases hor with g|g
     ·rw[g,<-hB9,Nat.mul_assoc,Nat.mul_add,Nat.mul_comm B10];omega
     ·subst g;have:dv (l.take 0)=0:=by rw[List.take_zero];rfl
      rw[this,Nat.mul_zero,Nat.zero_mul,Nat.zero_add];omega
   by_cases h9:(m:Int)>9
   ·rw[if_pos (decide_eq_true h9),wr (by omega) (by omega),show(m:Int) - 9=((m - 9:Nat):Int) by omega];exact hstep (m - 9) 9 (Nat.le_refl _) (by omega) (.inl rfl)
   ·rw[if_neg (by simpa using h9)];exact hstep 0 m (by omega) (by omega) (.inr rfl)
  ·rw[if_neg (by simpa using h0)];have h00:to.toNat=0:=by omega
   rw[h00,List.take_zero,show dv []=0 from rfl,Nat.mul_zero,Nat.add_zero]at hv;unfold S.a3t;dsimp only;rw[if_pos ⟨hdo,by omega⟩,Option.bind_some,hv]
def S.a0v (x:(ByteArray×Unit)):(Option ((List Int)×Unit)):=if c0l x.1.data.toList=true/\x.1.data.toList.length<=1000000000 then some (nd B10 (dv x.1.data.toList),())else none
theorem S.d1y (x r) (h:S.a0v x=some r):∃k,P.b9v k x=some r:=by
 obtain⟨s,u⟩:=x;unfold S.a0v at h;dsimp only at h;split at h
 case isFalse=>cases h
 rename_i hc;obtain⟨hd,hl⟩:=hc;cases h;have hs:s.size=s.data.toList.length:=by rw[Array.length_toList];rfl
 refine⟨s.data.toList.length+10,?_⟩;unfold P.b9v;dsimp only;rw[hs];exact sr_outer s _ rfl hd hl _ (by omega) s.data.toList.length _ [] _ (Int.le_refl _) (by omega) (Int.le_refl _) (by omega) rfl (by simp) (by rw[Int.toNat_natCast,List.take_length];simp [a0c])
abbrev P.b1t (x1:Int×ByteArray×Unit) (g2:Int×ByteArray×Unit->Option (Bool×Unit)):Option (Bool×Unit):=
 (fun(a:Int) (b:ByteArray)=>if decide (a<(b.size:Int))then if decide (0<=a)then if decide (a<(b.size:Int))then if decide ((a2e b a)<48)then some (false,())else if decide (0<=a)then if decide (a<(b.size:Int))then if decide ((a2e b a)>57)then some (false,())else g2 (wrap .i64 (a+1),b,())else none else none else none else none else if decide ((b.size:Int)>=1)then if decide ((b.size:Int)<=200)then if(b.size:Int)==1 then some (true,())else if decide (0<(b.size:Int))then some ((a2e b 0) != 48,())else none else some (false,())else some (false,())) x1.1 x1.2.1
def P.c2n (k:Nat) (x:ByteArray×Unit):Option (Bool×Unit):=
 loopP P.b1t k (0,x.1,())
def S.a0z (x:(ByteArray×Unit)):(Option (Bool×Unit)):=if x.1.size<=281474976710656 then some (okN x.1.data.toList,())else none
theorem S.d5l (x r) (h:S.a0z x=some r):∃k,P.c2n k x=some r:=by
 obtain⟨s,u⟩:=x;unfold S.a0z at h;dsimp only at h;split at h
 case isFalse=>cases h
 rename_i hsz;cases h;have hs:s.size=s.data.toList.length:=by rw[Array.length_toList];rfl
 rw[hs]at hsz;refine⟨s.data.toList.length+1,?_⟩;unfold P.c2n;dsimp only;generalize hL:s.data.toList=l at*;have key:=a0f (k:=l.length+1) (b:=P.b1t) (n:=l.length) (st:=fun i=>((i:Int),s,())) (F:=fun i=>some (c0l (l.drop i)&&okR l,())) (fun i g hi hg=>by
  unfold P.b1t;dsimp only at hg ⊢;have e1:(i:Int)<(l.length:Int):=by omega
  have e2:(0:Int)<=(i:Int):=by omega
  have hb:a2e s (i:Int)=(l[i].toNat:Int):=by
   unfold a2e;rw[hL,a0o l i _ hi]
  have ha:c0l (l.drop i)=(isD l[i]&&c0l (l.drop (i+1))):=by
   rw[List.drop_eq_getElem_cons hi];rfl
  rw[hs,hb,wr (x:=(i:Int)+1) (by omega) (by omega),ha];simp only[e1,e2,decide_true,if_true];unfold isD
  by_cases c1:48<=l[i].toNat
  ·rw[if_neg (by simp;omega)]
   by_cases c2:l[i].toNat<=57
   ·rw[if_neg (by simp;omega),decide_eq_true ⟨c1,c2⟩,Bool.true_and];exact hg
   ·rw[if_pos (decide_eq_true (by omega)),decide_eq_false (fun q=>c2 q.2)];rfl
  ·rw[if_pos (decide_eq_true (by omega)),decide_eq_false (fun q=>c1 q.1)];rfl) (fun g=>by
  unfold P.b1t;dsimp only;rw[hs,if_neg (by simp),List.drop_length,show c0l []=true from rfl,Bool.true_and];unfold okR
  by_cases h1:l=[]
  ·subst h1;rfl
  ·have hpos:0<l.length:=List.length_pos_iff.2 h1;have d1:(l.length:Int)>=1:=by omega
   rw[if_pos (decide_eq_true d1),decide_eq_true h1,Bool.true_and]
   by_cases h2:l.length<=200
   ·have d2:(l.length:Int)<=200:=by omega
    rw[if_pos (decide_eq_true d2),decide_eq_true h2,Bool.true_and]
    by_cases h3:l.length=1
    ·have d3:(((l.length:Nat):Int)==(1:Int))=true:=by simp [h3]
     rw[if_pos d3,decide_eq_true h3,Bool.true_or]
    ·have d3:¬(((l.length:Nat):Int)==(1:Int))=true:=by simp;omega
     have d4:(0:Int)<(l.length:Int):=by omega
     rw[if_neg d3,if_pos (decide_eq_true d4),decide_eq_false h3,Bool.false_or];have hb:a2e s 0=(l[0].toNat:Int):=by
      unfold a2e;rw[hL];simp [hpos]
     have hh:l.head? =some l[0]:=by
      cases l with
      |nil=>simp at h1
      |cons c r=>rfl
     rw[hb,hh]
     by_cases c1:l[0]=48
     ·rw[c1];rfl
     ·have:¬((l[0].toNat:Int)=48):=by
       intro q;apply c1;apply UInt8.toNat_inj.1;show _=48;omega
      rw[decide_eq_true (by simpa using c1)];simpa [bne]using this
   ·have d2:¬(l.length:Int)<=200:=by omega
    rw[if_neg (by simpa using d2),decide_eq_false h2,Bool.false_and]) (by omega)
 rw[List.drop_zero]at key;exact key
def P.c6c (k:Nat) (x:ByteArray×Unit):Option ((RB×Bool)×Unit):=
 if decide ((x.1.size:Int)>0)then if decide (0<(x.1.size:Int))then if(a2e x.1 0)==45 then if decide (0<=(x.1.size:Int))then if decide ((x.1.size:Int)<=(x.1.size:Int))then if decide (1<=(x.1.size:Int))then(S.a8f (ByteArray.extract x.1 1 (Int.toNat (x.1.size:Int)),47,())).bind fun y0=>if decide ((y0.1.length:Int)>2)then some (((false,[],[]),false),())else if decide (0<(y0.1.length:Int))then(S.a0z (y0.1.getD 0 (bs []),())).bind fun y1=>if !y1.1 then some (((false,[],[]),false),())else if decide (0<(y0.1.length:Int))then(S.a0v (y0.1.getD 0 (bs []),())).bind fun y2=>if(a2e x.1 0)==45 then if(y2.1.length:Int)==0 then some (((false,[],[]),false),())else if(y0.1.length:Int)==1 then some ((((a2e x.1 0)==45,y2.1,[1]),true),())else if decide (1<(y0.1.length:Int))then(S.a0z (y0.1.getD 1 (bs []),())).bind fun y3=>if !y3.1 then some (((false,[],[]),false),())else if decide (1<(y0.1.length:Int))then(S.a0v (y0.1.getD 1 (bs []),())).bind fun y4=>(S.a0n (y4.1,[1],())).bind fun y5=>if decide (y5.1<=0)then some (((false,[],[]),false),())else(S.a3b (y2.1,y4.1,())).bind fun y6=>(S.a0n (y6.1,[1],())).bind fun y7=>if y7.1 != 0 then some (((false,[],[]),false),())else some ((((a2e x.1 0)==45,y2.1,y4.1),true),())else none else none else if(y0.1.length:Int)==1 then some ((((a2e x.1 0)==45,y2.1,[1]),true),())else if decide (1<(y0.1.length:Int))then(S.a0z (y0.1.getD 1 (bs []),())).bind fun y8=>if !y8.1 then some (((false,[],[]),false),())else if decide (1<(y0.1.length:Int))then(S.a0v (y0.1.getD 1 (bs []),())).bind fun y9=>(S.a0n (y9.1,[1],())).bind fun y10=>if decide (y10.1<=0)then some (((false,[],[]),false),())else(S.a3b (y2.1,y9.1,())).bind fun y11=>(S.a0n (y11.1,[1],())).bind fun y12=>if y12.1 != 0 then some (((false,[],[]),false),())else some ((((a2e x.1 0)==45,y2.1,y9.1),true),())else none else none else none else none else none else none else none else(S.a8f (x.1,47,())).bind fun y13=>if decide ((y13.1.length:Int)>2)then some (((false,[],[]),false),())else if decide (0<(y13.1.length:Int))then(S.a0z (y13.1.getD 0 (bs []),())).bind fun y14=>if !y14.1 then some (((false,[],[]),false),())else if decide (0<(y13.1.length:Int))then(S.a0v (y13.1.getD 0 (bs []),())).bind fun y15=>if(a2e x.1 0)==45 then if(y15.1.length:Int)==0 then some (((false,[],[]),false),())else if(y13.1.length:Int)==1 then some ((((a2e x.1 0)==45,y15.1,[1]),true),())else if decide (1<(y13.1.length:Int))then(S.a0z (y13.1.getD 1 (bs []),())).bind fun y16=>if !y16.1 then some (((false,[],[]),false),())else if decide (1<(y13.1.length:Int))then(S.a0v (y13.1.getD 1 (bs []),())).bind fun y17=>(S.a0n (y17.1,[1],())).bind fun y18=>if decide (y18.1<=0)then some (((false,[],[]),false),())else(S.a3b (y15.1,y17.1,())).bind fun y19=>(S.a0n (y19.1,[1],())).bind fun y20=>if y20.1 != 0 then some (((false,[],[]),false),())else some ((((a2e x.1 0)==45,y15.1,y17.1),true),())else none else none else if(y13.1.length:Int)==1 then some ((((a2e x.1 0)==45,y15.1,[1]),true),())else if decide (1<(y13.1.length:Int))then(S.a0z (y13.1.getD 1 (bs []),())).bind fun y21=>if !y21.1 then some (((false,[],[]),false),())else if decide (1<(y13.1.length:Int))then(S.a0v (y13.1.getD 1 (bs []),())).bind fun y22=>(S.a0n (y22.1,[1],())).bind fun y23=>if decide (y23.1<=0)then some (((false,[],[]),false),())else(S.a3b (y15.1,y22.1,())).bind fun y24=>(S.a0n (y24.1,[1],())).bind fun y25=>if y25.1 != 0 then some (((false,[],[]),false),())else some ((((a2e x.1 0)==45,y15.1,y22.1),true),())else none else none else none else none else none else(S.a8f (x.1,47,())).bind fun y26=>if decide ((y26.1.length:Int)>2)then some (((false,[],[]),false),())else if decide (0<(y26.1.length:Int))then(S.a0z (y26.1.getD 0 (bs []),())).bind fun y27=>if !y27.1 then some (((false,[],[]),false),())else if decide (0<(y26.1.length:Int))then(S.a0v (y26.1.getD 0 (bs []),())).bind fun y28=>if(y26.1.length:Int)==1 then some (((false,y28.1,[1]),true),())else if decide (1<(y26.1.length:Int))then(S.a0z (y26.1.getD 1 (bs []),())).bind fun y29=>if !y29.1 then some (((false,[],[]),false),())else if decide (1<(y26.1.length:Int))then(S.a0v (y26.1.getD 1 (bs []),())).bind fun y30=>(S.a0n (y30.1,[1],())).bind fun y31=>if decide (y31.1<=0)then some (((false,[],[]),false),())else(S.a3b (y28.1,y30.1,())).bind fun y32=>(S.a0n (y32.1,[1],())).bind fun y33=>if y33.1 != 0 then some (((false,[],[]),false),())else some (((false,y28.1,y30.1),true),())else none else none else none else none
theorem pp_sign (T:ByteArray) (n:Bool) (hsz:T.size<=1000000):
  (Option.bind (S.a8f (T,((47:Int),()))) (fun(z0:((List ByteArray)×Unit))=>(if((decide (((List.length z0.1):Int)>(2:Int)))=true)then(some (((false,(([]:List Int),([]:List Int))),false),()))
 else(if((decide ((0:Int)<((List.length z0.1):Int)))=true)then(Option.bind (S.a0z ((List.getD z0.1 (0:Nat) (Go.Cm.bs [])),())) (fun(z1:(Bool×Unit))=>(if((!z1.1)=true)then(some (((false,(([]:List Int),([]:List Int))),false),()))
 else(if((decide ((0:Int)<((List.length z0.1):Int)))=true)then(Option.bind (S.a0v ((List.getD z0.1 (0:Nat) (Go.Cm.bs [])),())) (fun(z2:((List Int)×Unit))=>(if(n=true)then(if((((List.length z2.1):Int)==(0:Int))=true)then(some (((false,(([]:List Int),([]:List Int))),false),()))
 else(if((((List.length z0.1):Int)==(1:Int))=true)then(some (((n,(z2.1,((1:Int)::([]:List Int)))),true),()))
 else(if((decide ((1:Int)<((List.length z0.1):Int)))=true)then(Option.bind (S.a0z ((List.getD z0.1 (1:Nat) (Go.Cm.bs [])),())) (fun(z3:(Bool×Unit))=>(if((!z3.1)=true)then(some (((false,(([]:List Int),([]:List Int))),false),()))
 else(if((decide ((1:Int)<((List.length z0.1):Int)))=true)then(Option.bind (S.a0v ((List.getD z0.1 (1:Nat) (Go.Cm.bs [])),())) (fun(z4:((List Int)×Unit))=>(Option.bind (S.a0n (z4.1,(((1:Int)::([]:List Int)),()))) (fun(z5:(Int×Unit))=>(if((decide (z5.1<=(0:Int)))=true)then(some (((false,(([]:List Int),([]:List Int))),false),()))
 else(Option.bind (S.a3b (z2.1,(z4.1,()))) (fun(z6:((List Int)×Unit))=>(Option.bind (S.a0n (z6.1,(((1:Int)::([]:List Int)),()))) (fun(z7:(Int×Unit))=>(if((z7.1 != (0:Int))=true)then(some (((false,(([]:List Int),([]:List Int))),false),()))
 else(some (((n,(z2.1,z4.1)),true),()))))))))))))
 else none))))
 else none)))
 else(if((((List.length z0.1):Int)==(1:Int))=true)then(some (((n,(z2.1,((1:Int)::([]:List Int)))),true),()))
 else(if((decide ((1:Int)<((List.length z0.1):Int)))=true)then(Option.bind (S.a0z ((List.getD z0.1 (1:Nat) (Go.Cm.bs [])),())) (fun(z8:(Bool×Unit))=>(if((!z8.1)=true)then(some (((false,(([]:List Int),([]:List Int))),false),()))
 else(if((decide ((1:Int)<((List.length z0.1):Int)))=true)then(Option.bind (S.a0v ((List.getD z0.1 (1:Nat) (Go.Cm.bs [])),())) (fun(z9:((List Int)×Unit))=>(Option.bind (S.a0n (z9.1,(((1:Int)::([]:List Int)),()))) (fun(z10:(Int×Unit))=>(if((decide (z10.1<=(0:Int)))=true)then(some (((false,(([]:List Int),([]:List Int))),false),()))
 else(Option.bind (S.a3b (z2.1,(z9.1,()))) (fun(z11:((List Int)×Unit))=>(Option.bind (S.a0n (z11.1,(((1:Int)::([]:List Int)),()))) (fun(z12:(Int×Unit))=>(if((z12.1 != (0:Int))=true)then(some (((false,(([]:List Int),([]:List Int))),false),()))
 else(some (((n,(z2.1,z9.1)),true),()))))))))))))
 else none))))
 else none)))))
 else none))))
 else none))))=some ((rp B10 (a6g n (b1m 47 T.data.toList)).1,(a6g n (b1m 47 T.data.toList)).2),()):=by
 have hbad:((false,(([]:List Int),([]:List Int))),false)=(rp B10 noQ.1,noQ.2):=by
  unfold noQ rp;dsimp only;rw[a1v a0d]
 have hcut:S.a8f (T,(47,()))=some ((b0a T 47 (T.size+1)).1,()):=by
  unfold S.a8f;exact if_pos hsz
 have hp:(b0a T 47 (T.size+1)).1.map (·.data.toList)=a5i 47 T.data.toList:=c7z T 47;have hlen:∀A∈(b0a T 47 (T.size+1)).1,A.data.toList.length<=1000000:=by
  intro A hA;have h1:=d8b 47 T.data.toList A.data.toList (by rw[<-hp];exact List.mem_map_of_mem hA);have h2:T.size=T.data.toList.length:=by rw[Array.length_toList];rfl
  omega
 rw[hcut,Option.bind_some,hbad];generalize (b0a T 47 (T.size+1)).1=ps at*;rw[b8q]at hp;generalize hc:b1m 47 T.data.toList=c at*;have hDig:∀A∈ps,S.a0z (A,())=some (okN A.data.toList,()):=by
  intro A hA;have h1:=hlen A hA;have h2:A.size=A.data.toList.length:=by rw[Array.length_toList];rfl
  unfold S.a0z;exact if_pos (by dsimp only;omega)
 have hRead:∀A∈ps,okN A.data.toList=true->S.a0v (A,())=some (nd B10 (dv A.data.toList),()):=by
  intro A hA hok;have h1:=c1f hok;unfold S.a0v;exact if_pos ⟨h1.1,by dsimp only;omega⟩
 have hz:∀m:Nat,(((nd B10 m).length:Int)==0)=decide (m=0):=by
  intro m;have:=b0h a0d (a0m a0d m);rw[a0i a0d]at this
  by_cases h0:m=0
  ·rw[this.2 h0,h0];rfl
  ·have hne:=fun q=>h0 (this.1 q)
   rw[decide_eq_false h0];simpa using hne
 have hone:([1]:List Int)=nd B10 1:=(nd_one a0d).symm;unfold a6g;cases hf:c.2.2
 ·
  rw[hf,if_neg (by decide)]at hp;obtain⟨A,rfl,hA⟩:∃A,ps=[A]/\A.data.toList=c.1:=by
   exact List.map_eq_singleton_iff.1 hp
  have hd:=hDig A (by simp);have hr:=hRead A (by simp);rw[hA]at hd hr;have l1:¬(((List.length [A]:Nat):Int)>2):=by simp
  have l2:(0:Int)<((List.length [A]:Nat):Int):=by simp
  have l3:(((List.length [A]:Nat):Int)==1)=true:=rfl;simp only[l1,l2,l3,decide_true,decide_false,if_true,if_false,Bool.false_eq_true,List.getD_cons_zero];rw[hd,Option.bind_some];dsimp only;cases hok:okN c.1
  ·rw[if_pos (show(!false)=true by rfl),if_neg (fun q=>by cases q.1)]
  ·rw[if_neg (show ¬((!true)=true) by decide),hr hok,Option.bind_some];dsimp only;rw[hz];cases n
   ·rw[if_neg (show ¬((false:Bool)=true) by decide),if_pos ⟨rfl,fun q=>by cases q.1⟩,hone];rfl
   ·rw[if_pos rfl]
    by_cases h0:dv c.1=0
    ·rw[if_pos (decide_eq_true h0),if_neg (fun q=>q.2 ⟨rfl,h0⟩)]
    ·rw[if_neg (by simpa using h0),if_pos ⟨rfl,fun q=>h0 q.2⟩,hone];rfl
 ·rw[hf,if_pos rfl,b8q]at hp;cases hf2:(b1m 47 c.2.1).2.2
  ·rw[hf2,if_neg (by decide)]at hp;have hy:(b1m 47 c.2.1).1=c.2.1:=((c7l 47 c.2.1).1 hf2).2.1;rw[hy]at hp;obtain⟨A,B,rfl,hA,hB⟩:∃A B,ps=[A,B]/\A.data.toList=c.1/\B.data.toList=c.2.1:=by
    obtain⟨A,q,rfl,hA,hq⟩:=List.map_eq_cons_iff.1 hp;obtain⟨B,rfl,hB⟩:=List.map_eq_singleton_iff.1 hq;exact⟨A,B,rfl,hA,hB⟩
   have hd:=hDig A (by simp);have hr:=hRead A (by simp);have hd2:=hDig B (by simp);have hr2:=hRead B (by simp);rw[hA]at hd hr;rw[hB]at hd2 hr2;have l1:¬(((List.length [A,B]:Nat):Int)>2):=by simp
   have l2:(0:Int)<((List.length [A,B]:Nat):Int):=by simp
   have l3:(((List.length [A,B]:Nat):Int)==1)=false:=rfl;have l4:(1:Int)<((List.length [A,B]:Nat):Int):=by simp
   simp only[l1,l2,l3,l4,decide_true,decide_false,if_true,if_false,Bool.false_eq_true,List.getD_cons_zero,List.getD_cons_succ];rw[hd,Option.bind_some];dsimp only;cases hok:okN c.1
   ·rw[if_pos (show(!false)=true by rfl),if_neg (fun q=>by cases q.1)]
   ·rw[if_neg (show ¬((!true)=true) by decide),hr hok,Option.bind_some];dsimp only;have la:=b6z (B:=B10) (by decide) (c8k hok);have hrest:∀(m:Bool),¬(m=true/\dv c.1=0)->(Option.bind (S.a0z (B,())) (fun(w0:(Bool×Unit))=>(if((!w0.1)=true)then(some ((rp B10 noQ.1,noQ.2),()))
 else(Option.bind (S.a0v (B,())) (fun(w1:((List Int)×Unit))=>(Option.bind (S.a0n (w1.1,(((1:Int)::([]:List Int)),()))) (fun(w2:(Int×Unit))=>(if((decide (w2.1<=(0:Int)))=true)then(some ((rp B10 noQ.1,noQ.2),()))
 else(Option.bind (S.a3b (nd B10 (dv c.1),(w1.1,()))) (fun(w3:((List Int)×Unit))=>(Option.bind (S.a0n (w3.1,(((1:Int)::([]:List Int)),()))) (fun(w4:(Int×Unit))=>(if((w4.1 != (0:Int))=true)then(some ((rp B10 noQ.1,noQ.2),()))
 else(some (((m,(nd B10 (dv c.1),w1.1)),true),())))))))))))))))=some ((rp B10 (if okN c.2.1=true/\1<dv c.2.1/\Nat.gcd (dv c.1) (dv c.2.1)=1 then((m,(dv c.1,dv c.2.1)),true)else noQ).1,(if okN c.2.1=true/\1<dv c.2.1/\Nat.gcd (dv c.1) (dv c.2.1)=1 then((m,(dv c.1,dv c.2.1)),true)else noQ).2),()):=by
     intro m hm;rw[hd2,Option.bind_some];dsimp only;cases hb:okN c.2.1
     ·have hx:¬((false:Bool)=true/\1<dv c.2.1/\Nat.gcd (dv c.1) (dv c.2.1)=1):=fun q=>by cases q.1
      rw[if_pos (show(!false)=true by rfl),if_neg hx]
     ·have lb:=b6z (B:=B10) (by decide) (c8k hb);rw[if_neg (show ¬((!true)=true) by decide),hr2 hb,Option.bind_some];dsimp only;have e1:S.a0n (nd B10 (dv c.2.1),([1],()))=some (b1i (dv c.2.1) 1,()):=by
       unfold S.a0n;dsimp only;rw[if_pos ⟨a0m a0d _,b6y a0d,by omega⟩,a0i a0d,b8p]
      have e2:S.a3b (nd B10 (dv c.1),(nd B10 (dv c.2.1),()))=some (nd B10 (Nat.gcd (dv c.1) (dv c.2.1)),()):=by
       unfold S.a3b;dsimp only;rw[if_pos ⟨a0m a0d _,a0m a0d _,by omega,by omega⟩,a0i a0d,a0i a0d]
      rw[e1,Option.bind_some];dsimp only
      by_cases h1:1<dv c.2.1
      ·have hcm:¬(b1i (dv c.2.1) 1<=0):=by
        have:=(c7k (a:=dv c.2.1) (b:=1)).2 h1;omega
       have lg:(nd B10 (Nat.gcd (dv c.1) (dv c.2.1))).length<=200:=Nat.le_trans (a6w a0d (Nat.le_of_dvd (by omega) (Nat.gcd_dvd_right _ _))) lb;have e3:S.a0n (nd B10 (Nat.gcd (dv c.1) (dv c.2.1)),([1],()))=some (b1i (Nat.gcd (dv c.1) (dv c.2.1)) 1,()):=by
        unfold S.a0n;dsimp only;rw[if_pos ⟨a0m a0d _,b6y a0d,by omega⟩,a0i a0d,b8p]
       rw[if_neg (by simpa using hcm),e2,Option.bind_some];dsimp only;rw[e3,Option.bind_some];dsimp only
       by_cases hg:Nat.gcd (dv c.1) (dv c.2.1)=1
       ·rw[if_neg (by simpa using a5a.2 hg),if_pos ⟨rfl,h1,hg⟩];rfl
       ·rw[if_pos (by simpa using fun q=>hg (a5a.1 q)),if_neg (fun q=>hg q.2.2)]
      ·have hcm:b1i (dv c.2.1) 1<=0:=by
        have h2:¬(b1i (dv c.2.1) 1>0):=fun q=>h1 ((c7k (a:=dv c.2.1) (b:=1)).1 q)
        omega
       rw[if_pos (decide_eq_true hcm),if_neg (fun q=>h1 q.2.1)]
    rw[hz];cases n
    ·have hm:¬((false:Bool)=true/\dv c.1=0):=fun q=>by cases q.1
     rw[if_neg (show ¬((false:Bool)=true) by decide),if_pos ⟨rfl,hm⟩];exact hrest false hm
    ·rw[if_pos rfl]
     by_cases h0:dv c.1=0
     ·rw[if_pos (decide_eq_true h0),if_neg (fun q=>q.2 ⟨rfl,h0⟩)]
     ·have hm:¬((true:Bool)=true/\dv c.1=0):=fun q=>h0 q.2
      rw[if_neg (by simpa using h0),if_pos ⟨rfl,hm⟩];exact hrest true hm
  ·
   rw[hf2,if_pos rfl]at hp;have hl:ps.length=2+(a5i 47 (b1m 47 c.2.1).2.1).length:=by
    have:=congrArg List.length hp;simp at this;omega
   have hl2:(a5i 47 (b1m 47 c.2.1).2.1).length≠0:=fun q=>c0m 47 _ (List.eq_nil_of_length_eq_zero q)
   have l1:((ps.length:Nat):Int)>2:=by omega
   have hx:¬(okN c.2.1=true/\1<dv c.2.1/\Nat.gcd (dv c.1) (dv c.2.1)=1):=fun q=>by
    have:=cutP_allD (c1f q.1).1;rw[hf2]at this;cases this
   rw[if_pos (decide_eq_true l1),if_pos rfl,if_neg hx];split<;>rfl
theorem pp_plain (T:ByteArray) (hsz:T.size<=1000000):
  (Option.bind (S.a8f (T,((47:Int),()))) (fun(z0:((List ByteArray)×Unit))=>(if((decide (((List.length z0.1):Int)>(2:Int)))=true)then(some (((false,(([]:List Int),([]:List Int))),false),()))
 else(if((decide ((0:Int)<((List.length z0.1):Int)))=true)then(Option.bind (S.a0z ((List.getD z0.1 (0:Nat) (Go.Cm.bs [])),())) (fun(z1:(Bool×Unit))=>(if((!z1.1)=true)then(some (((false,(([]:List Int),([]:List Int))),false),()))
 else(if((decide ((0:Int)<((List.length z0.1):Int)))=true)then(Option.bind (S.a0v ((List.getD z0.1 (0:Nat) (Go.Cm.bs [])),())) (fun(z2:((List Int)×Unit))=>(if((((List.length z0.1):Int)==(1:Int))=true)then(some (((false,(z2.1,((1:Int)::([]:List Int)))),true),()))
 else(if((decide ((1:Int)<((List.length z0.1):Int)))=true)then(Option.bind (S.a0z ((List.getD z0.1 (1:Nat) (Go.Cm.bs [])),())) (fun(z3:(Bool×Unit))=>(if((!z3.1)=true)then(some (((false,(([]:List Int),([]:List Int))),false),()))
 else(if((decide ((1:Int)<((List.length z0.1):Int)))=true)then(Option.bind (S.a0v ((List.getD z0.1 (1:Nat) (Go.Cm.bs [])),())) (fun(z4:((List Int)×Unit))=>(Option.bind (S.a0n (z4.1,(((1:Int)::([]:List Int)),()))) (fun(z5:(Int×Unit))=>(if((decide (z5.1<=(0:Int)))=true)then(some (((false,(([]:List Int),([]:List Int))),false),()))
 else(Option.bind (S.a3b (z2.1,(z4.1,()))) (fun(z6:((List Int)×Unit))=>(Option.bind (S.a0n (z6.1,(((1:Int)::([]:List Int)),()))) (fun(z7:(Int×Unit))=>(if((z7.1 != (0:Int))=true)then(some (((false,(([]:List Int),([]:List Int))),false),()))
 else(some (((false,(z2.1,z4.1)),true),()))))))))))))
 else none))))
 else none))))
 else none))))
 else none))))=some ((rp B10 (a6g false (b1m 47 T.data.toList)).1,(a6g false (b1m 47 T.data.toList)).2),()):=by
 have hbad:((false,(([]:List Int),([]:List Int))),false)=(rp B10 noQ.1,noQ.2):=by
  unfold noQ rp;dsimp only;rw[a1v a0d]
 have hcut:S.a8f (T,(47,()))=some ((b0a T 47 (T.size+1)).1,()):=by
  unfold S.a8f;exact if_pos hsz
 have hp:(b0a T 47 (T.size+1)).1.map (·.data.toList)=a5i 47 T.data.toList:=c7z T 47;have hlen:∀A∈(b0a T 47 (T.size+1)).1,A.data.toList.length<=1000000:=by
  intro A hA;have h1:=d8b 47 T.data.toList A.data.toList (by rw[<-hp];exact List.mem_map_of_mem hA);have h2:T.size=T.data.toList.length:=by rw[Array.length_toList];rfl
  omega
 rw[hcut,Option.bind_some,hbad];generalize (b0a T 47 (T.size+1)).1=ps at*;rw[b8q]at hp;generalize hc:b1m 47 T.data.toList=c at*;have hDig:∀A∈ps,S.a0z (A,())=some (okN A.data.toList,()):=by
  intro A hA;have h1:=hlen A hA;have h2:A.size=A.data.toList.length:=by rw[Array.length_toList];rfl
  unfold S.a0z;exact if_pos (by dsimp only;omega)
 have hRead:∀A∈ps,okN A.data.toList=true->S.a0v (A,())=some (nd B10 (dv A.data.toList),()):=by
  intro A hA hok;have h1:=c1f hok;unfold S.a0v;exact if_pos ⟨h1.1,by dsimp only;omega⟩
 have hz:∀m:Nat,(((nd B10 m).length:Int)==0)=decide (m=0):=by
  intro m;have:=b0h a0d (a0m a0d m);rw[a0i a0d]at this
  by_cases h0:m=0
  ·rw[this.2 h0,h0];rfl
  ·have hne:=fun q=>h0 (this.1 q)
   rw[decide_eq_false h0];simpa using hne
 have hone:([1]:List Int)=nd B10 1:=(nd_one a0d).symm;unfold a6g;cases hf:c.2.2
 ·
  rw[hf,if_neg (by decide)]at hp;obtain⟨A,rfl,hA⟩:∃A,ps=[A]/\A.data.toList=c.1:=by
   exact List.map_eq_singleton_iff.1 hp
  have hd:=hDig A (by simp);have hr:=hRead A (by simp);rw[hA]at hd hr;have l1:¬(((List.length [A]:Nat):Int)>2):=by simp
  have l2:(0:Int)<((List.length [A]:Nat):Int):=by simp
  have l3:(((List.length [A]:Nat):Int)==1)=true:=rfl;simp only[l1,l2,l3,decide_true,decide_false,if_true,if_false,Bool.false_eq_true,List.getD_cons_zero];rw[hd,Option.bind_some];dsimp only;cases hok:okN c.1
  ·rw[if_pos (show(!false)=true by rfl),if_neg (fun q=>by cases q.1)]
  ·rw[if_neg (show ¬((!true)=true) by decide),hr hok,Option.bind_some];dsimp only;rw[if_pos ⟨rfl,fun q=>by cases q.1⟩,hone];rfl
 ·rw[hf,if_pos rfl,b8q]at hp;cases hf2:(b1m 47 c.2.1).2.2
  ·rw[hf2,if_neg (by decide)]at hp;have hy:(b1m 47 c.2.1).1=c.2.1:=((c7l 47 c.2.1).1 hf2).2.1;rw[hy]at hp;obtain⟨A,B,rfl,hA,hB⟩:∃A B,ps=[A,B]/\A.data.toList=c.1/\B.data.toList=c.2.1:=by
    obtain⟨A,q,rfl,hA,hq⟩:=List.map_eq_cons_iff.1 hp;obtain⟨B,rfl,hB⟩:=List.map_eq_singleton_iff.1 hq;exact⟨A,B,rfl,hA,hB⟩
   have hd:=hDig A (by simp);have hr:=hRead A (by simp);have hd2:=hDig B (by simp);have hr2:=hRead B (by simp);rw[hA]at hd hr;rw[hB]at hd2 hr2;have l1:¬(((List.length [A,B]:Nat):Int)>2):=by simp
   have l2:(0:Int)<((List.length [A,B]:Nat):Int):=by simp
   have l3:(((List.length [A,B]:Nat):Int)==1)=false:=rfl;have l4:(1:Int)<((List.length [A,B]:Nat):Int):=by simp
   simp only[l1,l2,l3,l4,decide_true,decide_false,if_true,if_false,Bool.false_eq_true,List.getD_cons_zero,List.getD_cons_succ];rw[hd,Option.bind_some];dsimp only;cases hok:okN c.1
   ·rw[if_pos (show(!false)=true by rfl),if_neg (fun q=>by cases q.1)]
   ·rw[if_neg (show ¬((!true)=true) by decide),hr hok,Option.bind_some];dsimp only;have la:=b6z (B:=B10) (by decide) (c8k hok);have hrest:∀(m:Bool),¬(m=true/\dv c.1=0)->(Option.bind (S.a0z (B,())) (fun(w0:(Bool×Unit))=>(if((!w0.1)=true)then(some ((rp B10 noQ.1,noQ.2),()))
 else(Option.bind (S.a0v (B,())) (fun(w1:((List Int)×Unit))=>(Option.bind (S.a0n (w1.1,(((1:Int)::([]:List Int)),()))) (fun(w2:(Int×Unit))=>(if((decide (w2.1<=(0:Int)))=true)then(some ((rp B10 noQ.1,noQ.2),()))
 else(Option.bind (S.a3b (nd B10 (dv c.1),(w1.1,()))) (fun(w3:((List Int)×Unit))=>(Option.bind (S.a0n (w3.1,(((1:Int)::([]:List Int)),()))) (fun(w4:(Int×Unit))=>(if((w4.1 != (0:Int))=true)then(some ((rp B10 noQ.1,noQ.2),()))
 else(some (((m,(nd B10 (dv c.1),w1.1)),true),())))))))))))))))=some ((rp B10 (if okN c.2.1=true/\1<dv c.2.1/\Nat.gcd (dv c.1) (dv c.2.1)=1 then((m,(dv c.1,dv c.2.1)),true)else noQ).1,(if okN c.2.1=true/\1<dv c.2.1/\Nat.gcd (dv c.1) (dv c.2.1)=1 then((m,(dv c.1,dv c.2.1)),true)else noQ).2),()):=by
     intro m hm;rw[hd2,Option.bind_some];dsimp only;cases hb:okN c.2.1
     ·have hx:¬((false:Bool)=true/\1<dv c.2.1/\Nat.gcd (dv c.1) (dv c.2.1)=1):=fun q=>by cases q.1
      rw[if_pos (show(!false)=true by rfl),if_neg hx]
     ·have lb:=b6z (B:=B10) (by decide) (c8k hb);rw[if_neg (show ¬((!true)=true) by decide),hr2 hb,Option.bind_some];dsimp only;have e1:S.a0n (nd B10 (dv c.2.1),([1],()))=some (b1i (dv c.2.1) 1,()):=by
       unfold S.a0n;dsimp only;rw[if_pos ⟨a0m a0d _,b6y a0d,by omega⟩,a0i a0d,b8p]
      have e2:S.a3b (nd B10 (dv c.1),(nd B10 (dv c.2.1),()))=some (nd B10 (Nat.gcd (dv c.1) (dv c.2.1)),()):=by
       unfold S.a3b;dsimp only;rw[if_pos ⟨a0m a0d _,a0m a0d _,by omega,by omega⟩,a0i a0d,a0i a0d]
      rw[e1,Option.bind_some];dsimp only
      by_cases h1:1<dv c.2.1
      ·have hcm:¬(b1i (dv c.2.1) 1<=0):=by
        have:=(c7k (a:=dv c.2.1) (b:=1)).2 h1;omega
       have lg:(nd B10 (Nat.gcd (dv c.1) (dv c.2.1))).length<=200:=Nat.le_trans (a6w a0d (Nat.le_of_dvd (by omega) (Nat.gcd_dvd_right _ _))) lb;have e3:S.a0n (nd B10 (Nat.gcd (dv c.1) (dv c.2.1)),([1],()))=some (b1i (Nat.gcd (dv c.1) (dv c.2.1)) 1,()):=by
        unfold S.a0n;dsimp only;rw[if_pos ⟨a0m a0d _,b6y a0d,by omega⟩,a0i a0d,b8p]
       rw[if_neg (by simpa using hcm),e2,Option.bind_some];dsimp only;rw[e3,Option.bind_some];dsimp only
       by_cases hg:Nat.gcd (dv c.1) (dv c.2.1)=1
       ·rw[if_neg (by simpa using a5a.2 hg),if_pos ⟨rfl,h1,hg⟩];rfl
       ·rw[if_pos (by simpa using fun q=>hg (a5a.1 q)),if_neg (fun q=>hg q.2.2)]
      ·have hcm:b1i (dv c.2.1) 1<=0:=by
        have h2:¬(b1i (dv c.2.1) 1>0):=fun q=>h1 ((c7k (a:=dv c.2.1) (b:=1)).1 q)
        omega
       rw[if_pos (decide_eq_true hcm),if_neg (fun q=>h1 q.2.1)]
    have hm:¬((false:Bool)=true/\dv c.1=0):=fun q=>by cases q.1
    rw[if_pos ⟨rfl,fun q=>q.1⟩];exact hrest false hm
  ·
   rw[hf2,if_pos rfl]at hp;have hl:ps.length=2+(a5i 47 (b1m 47 c.2.1).2.1).length:=by
    have:=congrArg List.length hp;simp at this;omega
   have hl2:(a5i 47 (b1m 47 c.2.1).2.1).length≠0:=fun q=>c0m 47 _ (List.eq_nil_of_length_eq_zero q)
   have l1:((ps.length:Nat):Int)>2:=by omega
   have hx:¬(okN c.2.1=true/\1<dv c.2.1/\Nat.gcd (dv c.1) (dv c.2.1)=1):=fun q=>by
    have:=cutP_allD (c1f q.1).1;rw[hf2]at this;cases this
   rw[if_pos (decide_eq_true l1),if_pos rfl,if_neg hx];split<;>rfl
def S.b3v (x:(ByteArray×Unit)):(Option ((RB×Bool)×Unit)):=if x.1.size<=1000000 then some ((rp B10 (a5v x.1.data.toList).1,(a5v x.1.data.toList).2),())else none
theorem S.d9u (x r) (h:S.b3v x=some r):∃k,P.c6c k x=some r:=by
 obtain⟨s,u⟩:=x;unfold S.b3v at h;dsimp only at h;split at h
 case isFalse=>cases h
 rename_i hsz;refine⟨0,?_⟩;rw[<-h];unfold P.c6c;dsimp only;have hs:s.size=s.data.toList.length:=by rw[Array.length_toList];rfl
 unfold a5v
 by_cases h0:s.data.toList=[]
 ·have l1:¬((s.size:Int)>0):=by rw[hs,h0];simp
  rw[if_neg (by simpa using l1),h0,if_neg (by simp),<-h0];exact pp_plain s hsz
 ·have hpos:0<s.data.toList.length:=List.length_pos_iff.2 h0;have l1:(s.size:Int)>0:=by omega
  have l2:(0:Int)<(s.size:Int):=by omega
  have l3:(0:Int)<=(s.size:Int):=by omega
  have l4:(1:Int)<=(s.size:Int):=by omega
  have hb:a2e s 0=(s.data.toList[0].toNat:Int):=congrArg (fun c:UInt8=>(c.toNat:Int)) (a0o s.data.toList 0 0 hpos);have hh:s.data.toList.head? =some s.data.toList[0]:=by
   generalize s.data.toList=l at*;cases l with
   |nil=>simp at h0
   |cons c r=>rfl
  rw[if_pos (decide_eq_true l1),if_pos (decide_eq_true l2),hh,Int.toNat_natCast]
  by_cases c1:s.data.toList[0]=45
  ·have hn:(a2e s 0==45)=true:=by
    rw[hb,c1];rfl
   have hx:(ByteArray.extract s 1 s.size).data.toList=s.data.toList.tail:=by
    rw[e2h,List.take_of_length_le (by omega),List.drop_one]
   have hxs:(ByteArray.extract s 1 s.size).size<=1000000:=by
    have:(ByteArray.extract s 1 s.size).size=(ByteArray.extract s 1 s.size).data.toList.length:=by rw[Array.length_toList];rfl
    rw[this,hx];simp;omega
   rw[hn,if_pos rfl,if_pos (decide_eq_true l3),if_pos (decide_eq_true (Int.le_refl _)),if_pos (decide_eq_true l4),if_pos (by rw[c1])];have:=pp_sign (ByteArray.extract s 1 s.size) true hxs;rw[hx]at this;exact this
  ·have hn:(a2e s 0==45)=false:=by
    rw[hb,beq_eq_false_iff_ne];intro q;apply c1;apply UInt8.toNat_inj.1;show _=45;omega
   rw[hn,if_neg (show ¬((false:Bool)=true) by decide),if_neg (by rw[Option.some.injEq];exact c1)];exact pp_sign s false hsz
abbrev P.b5o (x1:Int×Int×List ByteArray×List RB×Unit) (g2:Int×Int×List ByteArray×List RB×Unit->Option ((List RB×Bool)×Unit)):Option ((List RB×Bool)×Unit):=
 if decide (x1.1<x1.2.1)then if decide (0<=x1.1)then if decide (x1.1<(x1.2.2.1.length:Int))then(S.b3v (x1.2.2.1.getD x1.1.toNat (bs []),())).bind fun y3=>if !y3.1.2 then some (([],false),())else if decide (((x1.2.2.2.1.length+(List.length [(y3.1.1.1,y3.1.1.2.1,y3.1.1.2.2)]))*56)<=140737488355328)then g2 (wrap .i64 (x1.1+1),x1.2.1,x1.2.2.1,x1.2.2.2.1++[(y3.1.1.1,y3.1.1.2.1,y3.1.1.2.2)],())else none else none else none else some ((x1.2.2.2.1,true),())
def P.d1z (k:Nat) (x:List ByteArray×Unit):Option ((List RB×Bool)×Unit):=
 if decide ((x.1.length:Int)>300)then some (([],false),())else loopP P.b5o k (0,(x.1.length:Int),x.1,[],())
open Classical in
def S.b6o (x:((List ByteArray)×Unit)):(Option (((List RB)×Bool)×Unit)):=if okT x.1=true then some (((a2u x.1).1.map (rp B10),(a2u x.1).2),())else none
theorem d5m (s:ByteArray) (h:s.size<=1000000):S.b3v (s,())=some ((rp B10 (a5v s.data.toList).1,(a5v s.data.toList).2),()):=by
 unfold S.b3v;exact if_pos (by dsimp only;omega)
theorem S.e5b (x r) (h:S.b6o x=some r):∃k,P.d1z k x=some r:=by
 obtain⟨ls,u⟩:=x;unfold S.b6o at h;dsimp only at h;split at h
 case isFalse=>cases h
 rename_i hc;cases h;refine⟨ls.length+1,?_⟩;unfold P.d1z a2u;dsimp only
 by_cases hl:(ls.length:Int)>300
 ·rw[if_pos (decide_eq_true hl),if_neg (show ¬(ls.length<=300/\(ls.all fun s=>(a5v s.data.toList).2)=true)from fun z=>by omega)];rfl
 rw[if_neg (by simpa using hl)];have key:=a0f (k:=ls.length+1) (b:=P.b5o) (n:=ls.length) (st:=fun i=>((i:Int),(ls.length:Int),ls,(ls.take i).map (fun s=>rp B10 (a5v s.data.toList).1),())) (F:=fun i=>some (if((ls.drop i).all fun s=>(a5v s.data.toList).2)=true then(ls.map (fun s=>rp B10 (a5v s.data.toList).1),true)else([],false),())) (fun i g hi hg=>by
  unfold P.b5o;dsimp only at hg ⊢;have e1:(i:Int)<(ls.length:Int):=by omega
  have e2:(0:Int)<=(i:Int):=by omega
  simp only[e1,e2,decide_true,if_true];rw[a0o ls i _ hi,d5m _ (okT_get hc hi),Option.bind_some,List.drop_eq_getElem_cons hi,List.all_cons];dsimp only;cases hf:(a5v ls[i].data.toList).2
  ·rw[if_pos (by rfl),if_neg (by simp)]
  ·rw[if_neg (by simp),wr (by omega) (by omega),Bool.true_and,<-hg];have e3:((List.map (fun s:ByteArray=>rp B10 (a5v s.data.toList).1) (ls.take i)).length+1)*56<=140737488355328:=by
    rw[List.length_map,List.length_take];omega
   simp only[List.length_cons,List.length_nil,Nat.zero_add];rw[if_pos (decide_eq_true e3),List.take_add_one,List.getElem?_eq_getElem hi,Option.toList_some,List.map_append];rfl) (fun g=>by
  unfold P.b5o;dsimp only;rw[if_neg (by simp),List.take_length,List.drop_length];rfl) (by omega)
 refine key.trans ?_;rw[List.drop_zero]
 by_cases ha:(ls.all fun s=>(a5v s.data.toList).2)=true
 ·rw[if_pos ha,if_pos (show ls.length<=300/\(ls.all fun s=>(a5v s.data.toList).2)=true from⟨by omega,ha⟩),List.map_map];rfl
 ·rw[if_neg ha,if_neg (fun z=>ha z.2)];rfl
abbrev P.a7w (x1:Int×List Int×List Int×Int×List Int×Unit) (g2:Int×List Int×List Int×Int×List Int×Unit->Option (List Int×Unit)):Option (List Int×Unit):=
 (fun(a d:Int) (b c e:List Int)=>if decide (a<(b.length:Int))then(S.a1u (b,a,())).bind fun y3=>(S.a1u (c,a,())).bind fun y4=>if decide (((e.length+(List.length [Int.tmod (wrap .i64 ((wrap .i64 (y3.1+y4.1))+d)) 1000000000]))*8)<=140737488355328)then g2 (wrap .i64 (a+1),b,c,wrap .i64 (Int.tdiv (wrap .i64 ((wrap .i64 (y3.1+y4.1))+d)) 1000000000),e++[Int.tmod (wrap .i64 ((wrap .i64 (y3.1+y4.1))+d)) 1000000000],())else none else if decide (a<(c.length:Int))then(S.a1u (b,a,())).bind fun y5=>(S.a1u (c,a,())).bind fun y6=>if decide (((e.length+(List.length [Int.tmod (wrap .i64 ((wrap .i64 (y5.1+y6.1))+d)) 1000000000]))*8)<=140737488355328)then g2 (wrap .i64 (a+1),b,c,wrap .i64 (Int.tdiv (wrap .i64 ((wrap .i64 (y5.1+y6.1))+d)) 1000000000),e++[Int.tmod (wrap .i64 ((wrap .i64 (y5.1+y6.1))+d)) 1000000000],())else none else if decide (d>0)then(S.a1u (b,a,())).bind fun y7=>(S.a1u (c,a,())).bind fun y8=>if decide (((e.length+(List.length [Int.tmod (wrap .i64 ((wrap .i64 (y7.1+y8.1))+d)) 1000000000]))*8)<=140737488355328)then g2 (wrap .i64 (a+1),b,c,wrap .i64 (Int.tdiv (wrap .i64 ((wrap .i64 (y7.1+y8.1))+d)) 1000000000),e++[Int.tmod (wrap .i64 ((wrap .i64 (y7.1+y8.1))+d)) 1000000000],())else none else some (e,())) x1.1 x1.2.2.2.1 x1.2.1 x1.2.2.1 x1.2.2.2.2.1
def P.c2o (k:Nat) (x:List Int×List Int×Unit):Option (List Int×Unit):=
 loopP P.a7w k (0,x.1,x.2.1,0,[],())
theorem digit_atA (xs:List Int) (i:Nat) (h:xs.length<=100000000000):S.a1u (xs,((i:Int),()))=some (xs.getD i 0,()):=by
 unfold S.a1u P.b3u;dsimp only
 by_cases hi:(i:Int)<(xs.length:Int)
 ·have h0:(0:Int)<=(i:Int):=by omega
  rw[if_pos (decide_eq_true hi),if_pos (decide_eq_true h0),if_pos (decide_eq_true hi),Int.toNat_natCast]
 ·rw[if_neg (by simpa using hi),List.getD_eq_getElem?_getD,List.getElem?_eq_none (by omega)];rfl
theorem addA_round (xs ys:List Int) (dx:dig B10 xs=true) (dy:dig B10 ys=true) (lx:xs.length<=10000000000) (ly:ys.length<=10000000000) (i:Nat) (hi:i<=100000000000) (hc:i<xs.length\/i<ys.length\/0<(a1j B10 xs ys i).2) (g:(Int×((List Int)×((List Int)×(Int×((List Int)×Unit)))))->Option ((List Int)×Unit)):
  P.a7w ((i:Int),xs,ys,((a1j B10 xs ys i).2:Int),(a1j B10 xs ys i).1,()) g=g (((i+1:Nat):Int),xs,ys,((a1j B10 xs ys (i+1)).2:Int),(a1j B10 xs ys (i+1)).1,()):=by
 obtain⟨q1,q2,q3,q4⟩:=b3o a0d dx dy i;have gx:=a1e (B:=B10) (by decide) dx i;have gy:=a1e (B:=B10) (by decide) dy i;have gx1:xs.getD i 0<1000000000:=gx.2;have gy1:ys.getD i 0<1000000000:=gy.2;have gx0:=gx.1;have gy0:=gy.1;have body:(Option.bind (S.a1u (xs,((i:Int),()))) (fun(y3:(Int×Unit))=>(Option.bind (S.a1u (ys,((i:Int),()))) (fun(y4:(Int×Unit))=>(if((decide ((((List.length (a1j B10 xs ys i).1)+(List.length ((Int.tmod (IntKind.wrap .i64 ((IntKind.wrap .i64 (y3.1+y4.1))+((a1j B10 xs ys i).2:Int))) (1000000000:Int))::([]:List Int))))*(8:Nat))<=(140737488355328:Nat)))=true)then(g ((IntKind.wrap .i64 ((i:Int)+(1:Int))),(xs,(ys,((IntKind.wrap .i64 (Int.tdiv (IntKind.wrap .i64 ((IntKind.wrap .i64 (y3.1+y4.1))+((a1j B10 xs ys i).2:Int))) (1000000000:Int))),(((a1j B10 xs ys i).1++((Int.tmod (IntKind.wrap .i64 ((IntKind.wrap .i64 (y3.1+y4.1))+((a1j B10 xs ys i).2:Int))) (1000000000:Int))::([]:List Int))),()))))))
 else none)))))=g (((i+1:Nat):Int),xs,ys,((a1j B10 xs ys (i+1)).2:Int),(a1j B10 xs ys (i+1)).1,()):=by
  rw[digit_atA xs i (by omega),Option.bind_some,digit_atA ys i (by omega),Option.bind_some];dsimp only;rw[a1j];generalize xs.getD i 0=x at*;generalize ys.getD i 0=y at*;generalize a1j B10 xs ys i=p at*;obtain⟨pl,c0⟩:=p;dsimp only at*;obtain⟨X,rfl⟩:∃Y:Nat,x=(Y:Int):=⟨x.toNat,by omega⟩
  obtain⟨Y,rfl⟩:∃Y:Nat,y=(Y:Int):=⟨y.toNat,by omega⟩
  rw[Int.toNat_natCast,Int.toNat_natCast,wr (x:=(X:Int)+(Y:Int)) (by omega) (by omega),wr (x:=(X:Int)+(Y:Int)+(c0:Int)) (by omega) (by omega),Int.tmod_eq_emod_of_nonneg (by omega),Int.tdiv_eq_ediv_of_nonneg (by omega)];have e8:((X:Int)+(Y:Int)+(c0:Int))%1000000000=(((c0+X+Y)%B10:Nat):Int):=by
   show _=(((c0+X+Y)%1000000000:Nat):Int)
   omega
  have e9:((X:Int)+(Y:Int)+(c0:Int))/1000000000=(((c0+X+Y)/B10:Nat):Int):=by
   show _=(((c0+X+Y)/1000000000:Nat):Int)
   omega
  have b2:(c0+X+Y)/B10<=1000000000:=by
   show(c0+X+Y)/1000000000<=1000000000;omega
  have hcap:(pl.length+ [(((c0+X+Y)%B10:Nat):Int)].length)*8<=140737488355328:=by
   rw[q2,List.length_singleton];omega
  rw[e8,e9,if_pos (decide_eq_true hcap),wr (x:=(((c0+X+Y)/B10:Nat):Int)) (by omega) (by omega),wr (x:=(i:Int)+1) (by omega) (by omega)];rfl
 unfold P.a7w;dsimp only
 by_cases h1:i<xs.length
 ·have h1':(i:Int)<(xs.length:Int):=by omega
  rw[if_pos (decide_eq_true h1')];exact body
 ·have h1':¬(i:Int)<(xs.length:Int):=by omega
  rw[if_neg (by simpa using h1')]
  by_cases h2:i<ys.length
  ·have h2':(i:Int)<(ys.length:Int):=by omega
   rw[if_pos (decide_eq_true h2')];exact body
  ·have h2':¬(i:Int)<(ys.length:Int):=by omega
   have h3:((a1j B10 xs ys i).2:Int)>0:=by
    rcases hc with h|h|h
    ·exact absurd h h1
    ·exact absurd h h2
    ·omega
   rw[if_neg (by simpa using h2'),if_pos (decide_eq_true h3)];exact body
def S.b1b (x:((List Int)×((List Int)×Unit))):(Option ((List Int)×Unit)):=if a2o B10 x.1=true/\a2o B10 x.2.1=true/\x.1.length<=10000000000/\x.2.1.length<=10000000000 then some (nd B10 (a0c B10 x.1+a0c B10 x.2.1),())else none
theorem S.d5n (x r) (h:S.b1b x=some r):∃k,P.c2o k x=some r:=by
 obtain⟨xs,ys,u⟩:=x;unfold S.b1b at h;dsimp only at h;split at h
 case isFalse=>cases h
 rename_i hc;obtain⟨cx,cy,lx,ly⟩:=hc;cases h;have dx:=a1s cx;have dy:=a1s cy;obtain⟨N,hN,hNx,hNy,hNle⟩:∃N,(N=xs.length\/N=ys.length)/\xs.length<=N/\ys.length<=N/\N<=10000000000:=by
  by_cases h:xs.length<=ys.length
  ·exact⟨ys.length, .inr rfl,h,Nat.le_refl _,ly⟩
  ·exact⟨xs.length, .inl rfl,Nat.le_refl _,by omega,lx⟩
 obtain⟨q1,q2,q3,q4⟩:=b3o a0d dx dy N;rw[List.take_of_length_le hNx,List.take_of_length_le hNy]at q3;obtain⟨n,hn,hfull⟩:∃n,(n=N/\(a1j B10 xs ys N).2=0\/n=N+1/\0<(a1j B10 xs ys N).2)/\(n=0\/B10^(n - 1)<=a0c B10 xs+a0c B10 ys):=by
  by_cases h:(a1j B10 xs ys N).2=0
  ·refine⟨N, .inl ⟨rfl,h⟩,?_⟩;have one:∀zs:List Int,a2o B10 zs=true->zs=[]\/B10^(zs.length - 1)<=a0c B10 zs:=by
    intro zs cz
    by_cases hz:zs=[]
    ·exact .inl hz
    ·have h0:a0c B10 zs≠0:=fun e=>hz ((b0h a0d cz).2 e)
     have:=nd_low a0d h0;rw[a1h cz]at this;exact .inr this
   rcases hN with e|e
   ·rcases one xs cx with h2|h2
    ·left;rw[e,h2];rfl
    ·right;rw[e];omega
   ·rcases one ys cy with h2|h2
    ·left;rw[e,h2];rfl
    ·right;rw[e];omega
  ·refine⟨N+1, .inr ⟨rfl,by omega⟩, .inr ?_⟩;rw[Nat.add_sub_cancel];have:B10^N*1<=B10^N*(a1j B10 xs ys N).2:=Nat.mul_le_mul_left _ (by omega);omega
 obtain⟨r1,r2,r3,r4⟩:=b3o a0d dx dy n;rw[List.take_of_length_le (by omega),List.take_of_length_le (by omega)]at r3;have hlast:(a1j B10 xs ys n).2=0:=by
  rcases hn with ⟨rfl,h⟩|⟨rfl,h⟩
  ·exact h
  ·rw[a1j];rw[List.getD_eq_getElem?_getD,List.getElem?_eq_none (by omega),List.getD_eq_getElem?_getD,List.getElem?_eq_none (by omega)];show((a1j B10 xs ys N).2+0+0)/1000000000=0;omega
 rw[hlast,Nat.mul_zero,Nat.add_zero]at r3;refine⟨n+1,?_⟩;unfold P.c2o;dsimp only;have key:=a0f (k:=n+1) (b:=P.a7w) (n:=n) (st:=fun i=>((i:Int),xs,ys,((a1j B10 xs ys i).2:Int),(a1j B10 xs ys i).1,())) (F:=fun i=>some (nd B10 (a0c B10 xs+a0c B10 ys),())) (fun i g hi hg=>by
  rw[addA_round xs ys dx dy lx ly i (by omega) (by
   rcases hn with ⟨rfl,h⟩|⟨rfl,h⟩
   ·omega
   ·by_cases he:i=N
    ·subst he;exact .inr (.inr h)
    ·omega)]
  exact hg) (fun g=>by
  unfold P.a7w;dsimp only;have h1:¬(n:Int)<(xs.length:Int):=by omega
  have h2:¬(n:Int)<(ys.length:Int):=by omega
  rw[if_neg (by simpa using h1),if_neg (by simpa using h2),hlast,if_neg (by simp),<-r3];rcases Nat.eq_zero_or_pos n with e|e
  ·subst e;show some ([],())=some (nd B10 0,());rw[a1v a0d]
  ·have hv:B10^(n - 1)<=a0c B10 (a1j B10 xs ys n).1:=by
    rcases hfull with h|h
    ·omega
    ·omega
   have:=nd_full a0d r1 (fun q=>by rw[q]at r2;simp at r2;omega) (by rw[r2];exact hv);rw[this]) (by omega)
 exact key
abbrev P.b0e (x1:Int×Int×List Int×List Int×Int×List Int×Unit) (g2:Int×Int×List Int×List Int×Int×List Int×Unit->Option (List Int×Unit)):Option (List Int×Unit):=
 (fun(a b e:Int) (c d f:List Int)=>if decide (a<b)then if decide (0<=a)then if decide (a<(c.length:Int))then(S.a1u (d,a,())).bind fun y3=>if decide ((wrap .i64 ((wrap .i64 ((c.getD a.toNat 0) - y3.1)) - e))<0)then if decide (((f.length+(List.length [wrap .i64 ((wrap .i64 ((wrap .i64 ((c.getD a.toNat 0) - y3.1)) - e))+1000000000)]))*8)<=140737488355328)then g2 (wrap .i64 (a+1),b,c,d,1,f++[wrap .i64 ((wrap .i64 ((wrap .i64 ((c.getD a.toNat 0) - y3.1)) - e))+1000000000)],())else none else if decide (((f.length+(List.length [wrap .i64 ((wrap .i64 ((c.getD a.toNat 0) - y3.1)) - e)]))*8)<=140737488355328)then g2 (wrap .i64 (a+1),b,c,d,0,f++[wrap .i64 ((wrap .i64 ((c.getD a.toNat 0) - y3.1)) - e)],())else none else none else none else(S.a3t (f,())).bind fun y4=>some (y4.1,())) x1.1 x1.2.1 x1.2.2.2.2.1 x1.2.2.1 x1.2.2.2.1 x1.2.2.2.2.2.1
def P.b9w (k:Nat) (x:List Int×List Int×Unit):Option (List Int×Unit):=
 loopP P.b0e k (0,(x.1.length:Int),x.1,x.2.1,0,[],())
theorem digit_at (xs:List Int) (i:Nat) (h:xs.length<=100000000000):S.a1u (xs,((i:Int),()))=some (xs.getD i 0,()):=by
 unfold S.a1u P.b3u;dsimp only
 by_cases hi:(i:Int)<(xs.length:Int)
 ·have h0:(0:Int)<=(i:Int):=by omega
  rw[if_pos (decide_eq_true hi),if_pos (decide_eq_true h0),if_pos (decide_eq_true hi),Int.toNat_natCast]
 ·rw[if_neg (by simpa using hi),List.getD_eq_getElem?_getD,List.getElem?_eq_none (by omega)];rfl
def S.a6t (x:((List Int)×((List Int)×Unit))):(Option ((List Int)×Unit)):=if dig B10 x.1=true/\dig B10 x.2.1=true/\x.2.1.length<=x.1.length/\a0c B10 x.2.1<=a0c B10 x.1/\x.1.length<=10000000000 then some (nd B10 (a0c B10 x.1 - a0c B10 x.2.1),())else none
theorem S.d2a (x r) (h:S.a6t x=some r):∃k,P.b9w k x=some r:=by
 obtain⟨xs,ys,u⟩:=x;unfold S.a6t at h;dsimp only at h;split at h
 case isFalse=>cases h
 rename_i hc;obtain⟨dx,dy,hl,hv,lx⟩:=hc;cases h;refine⟨xs.length+1,?_⟩;unfold P.b9w;dsimp only;have key:=a0f (k:=xs.length+1) (b:=P.b0e) (n:=xs.length) (st:=fun i=>((i:Int),(xs.length:Int),xs,ys,((a2f B10 1 xs ys i).2.2:Int),(a2f B10 1 xs ys i).1,())) (F:=fun i=>some (nd B10 (a0c B10 xs - a0c B10 ys),())) (fun i g hi hg=>by
  unfold P.b0e;dsimp only at hg ⊢;refine Eq.trans ?_ hg;clear hg;obtain⟨q1,q2,q3,q4,q5⟩:=c0k (t:=1) a0d dx dy i;have gx:=a1e (B:=B10) (by decide) dx i;have gy:=a1e (B:=B10) (by decide) dy i;have gx1:xs.getD i 0<1000000000:=gx.2;have gy1:ys.getD i 0<1000000000:=gy.2;have gx0:=gx.1;have gy0:=gy.1;have e1:(i:Int)<(xs.length:Int):=by omega
  have e2:(0:Int)<=(i:Int):=by omega
  simp only[e1,e2,decide_true,if_true,Int.toNat_natCast];rw[digit_at ys i (by omega),Option.bind_some];dsimp only;rw[(d8d a0d (xs:=xs) dy i).2];dsimp only;generalize (a2f B10 1 xs ys i).1=pl at*;generalize (a2f B10 1 xs ys i).2.2=l0 at*;obtain⟨x,hx⟩:∃x,xs.getD i 0=x:=⟨_,rfl⟩
  obtain⟨y,hy⟩:∃y,ys.getD i 0=y:=⟨_,rfl⟩
  simp only[hx,hy]at gx1 gx0 gy1 gy0 ⊢;have hB:((B10:Nat):Int)=1000000000:=rfl;have hcap:∀v:Int,(pl.length+ [v].length)*8<=140737488355328:=by
   intro v;rw[q2,List.length_singleton];omega
  rw[wr (x:=(i:Int)+1) (by omega) (by omega),wr (x:=x - y) (by omega) (by omega),wr (x:=x - y - (l0:Int)) (by omega) (by omega),wr (x:=x - y - (l0:Int)+1000000000) (by omega) (by omega),hB]
  by_cases hn:x - y - (l0:Int)<0
  ·rw[if_pos (decide_eq_true hn),if_pos (decide_eq_true (hcap _)),if_pos hn,show(x - y - (l0:Int))%1000000000=x - y - (l0:Int)+1000000000 by omega];rfl
  ·have e11:(x - y - (l0:Int))%1000000000=x - y - (l0:Int):=by omega
   rw[if_neg (by simpa using hn),if_pos (decide_eq_true (hcap _)),if_neg hn,e11];rfl) (fun g=>by
  unfold P.b0e;dsimp only;rw[if_neg (by simp),takeUp_fd a0d dx dy hl hv];unfold S.a3t;dsimp only;have hb:=a1p dx;rw[if_pos ⟨b5u (by decide) _ _,by rw[a2x];omega⟩,Option.bind_some,nd_fd a0d (by omega)]) (by omega)
 exact key
def P.d2b (k:Nat) (x:Bool×List Int×List Int×Unit):Option (RB×Unit):=
 (S.a3b (x.2.1,x.2.2.1,())).bind fun y0=>(S.a0n (y0.1,[(1:Int)],())).bind fun y1=>if y1.1 != (0:Int)then(S.a4n (x.2.1,y0.1,())).bind fun y2=>(S.a4n (x.2.2.1,y0.1,())).bind fun y3=>if x.1 then some ((decide ((y2.1.1.length:Int)>(0:Int)),y2.1.1,y3.1.1),())else some ((false,y2.1.1,y3.1.1),())else if x.1 then some ((decide ((x.2.1.length:Int)>(0:Int)),x.2.1,x.2.2.1),())else some ((false,x.2.1,x.2.2.1),())
def S.a5u (x:(Bool×((List Int)×((List Int)×Unit)))):(Option (RB×Unit)):=if a2o B10 x.2.1=true/\a2o B10 x.2.2.1=true/\x.2.2.1≠ []/\x.2.1.length<=10000000000/\x.2.2.1.length<=10000000000 then some (rp B10 (c1e x.1 (a0c B10 x.2.1) (a0c B10 x.2.2.1)),())else none
theorem S.s_l01Make_ok (x r) (h:S.a5u x=some r):∃k,P.d2b k x=some r:=by
 obtain⟨neg,as,bs',u⟩:=x;unfold S.a5u at h;dsimp only at h;split at h
 case isFalse=>cases h
 rename_i hc;obtain⟨ca,cb,hne,la,lb⟩:=hc;cases h;refine⟨0,?_⟩;unfold P.d2b;dsimp only;have hb0:a0c B10 bs'≠0:=fun e=>hne ((b0h a0d cb).2 e)
 have hg:=gcd_len a0d ca cb hb0;have hgp:0<Nat.gcd (a0c B10 as) (a0c B10 bs'):=Nat.gcd_pos_of_pos_right _ (by omega);have e1:S.a3b (as,(bs',()))=some (nd B10 (Nat.gcd (a0c B10 as) (a0c B10 bs')),()):=by
  unfold S.a3b;exact if_pos ⟨ca,cb,la,lb⟩
 rw[e1,Option.bind_some];dsimp only;unfold c1e rp;dsimp only;have hgne:nd B10 (Nat.gcd (a0c B10 as) (a0c B10 bs'))≠ []:=by
  rw[b4y a0d (by omega)];simp
 have hgd:a0c B10 (nd B10 (Nat.gcd (a0c B10 as) (a0c B10 bs')))=Nat.gcd (a0c B10 as) (a0c B10 bs'):=a0i a0d _;have hgc:a2o B10 (nd B10 (Nat.gcd (a0c B10 as) (a0c B10 bs')))=true:=a0m a0d _;have e2:∀xs,a2o B10 xs=true->xs.length<=10000000000->S.a4n (xs,(nd B10 (Nat.gcd (a0c B10 as) (a0c B10 bs')),()))=some ((nd B10 (a0c B10 xs/Nat.gcd (a0c B10 as) (a0c B10 bs')),nd B10 (a0c B10 xs%Nat.gcd (a0c B10 as) (a0c B10 bs'))),()):=by
  intro xs cx lx;unfold S.a4n;dsimp only;rw[if_pos ⟨cx,hgc,hgne,lx,by omega⟩,hgd]
 have e3:S.a0n (nd B10 (Nat.gcd (a0c B10 as) (a0c B10 bs')),([1],()))=some (b1i (Nat.gcd (a0c B10 as) (a0c B10 bs')) 1,()):=by
  unfold S.a0n;dsimp only;rw[if_pos ⟨hgc,b6y a0d,by omega⟩,hgd,b8p]
 rw[e3,Option.bind_some,e2 as ca la,Option.bind_some,e2 bs' cb lb,Option.bind_some];dsimp only;have hpos:∀xs:List Int,a2o B10 xs=true->(decide (((xs.length:Nat):Int)>0))=decide (a0c B10 xs≠0):=by
  intro xs cx;have:=b0h a0d cx;rw[decide_eq_decide];constructor
  ·intro h e;rw[this.2 e]at h;simp at h
  ·intro h;have:0<xs.length:=List.length_pos_iff.2 (fun e=>h (this.1 e));omega
 have hp2:decide (a0c B10 as/Nat.gcd (a0c B10 as) (a0c B10 bs')≠0)=decide (a0c B10 as≠0):=by
  rw[decide_eq_decide];have hdv:Nat.gcd (a0c B10 as) (a0c B10 bs') ∣ a0c B10 as:=Nat.gcd_dvd_left _ _;constructor
  ·intro h e;rw[e,Nat.zero_div]at h;exact h rfl
  ·intro h e;have:=Nat.div_pos (Nat.le_of_dvd (by omega) hdv) hgp;omega
 rw[hpos _ (a0m a0d _),hpos as ca,a0i a0d,hp2]
 by_cases h1:Nat.gcd (a0c B10 as) (a0c B10 bs')=1
 ·rw[if_neg (by simpa using a5a.2 h1),h1,Nat.div_one,Nat.div_one,a1h ca,a1h cb];cases neg<;>simp
 ·rw[if_pos (by simpa using fun q=>h1 (a5a.1 q))];cases neg<;>simp
def P.d9v (k:Nat) (x:RB×RB×Unit):Option (RB×Unit):=
 (S.a1i (x.1.2.1,x.2.1.2.2,())).bind fun y0=>(S.a1i (x.2.1.2.1,x.1.2.2,())).bind fun y1=>(S.a1i (x.1.2.2,x.2.1.2.2,())).bind fun y2=>if x.1.1==x.2.1.1 then(S.b1b (y0.1,y1.1,())).bind fun y3=>(S.a5u (x.1.1,y3.1,y2.1,())).bind fun y4=>some ((y4.1.1,y4.1.2.1,y4.1.2.2),())else(S.a0n (y0.1,y1.1,())).bind fun y5=>if decide (y5.1>=0)then(S.a6t (y0.1,y1.1,())).bind fun y6=>(S.a5u (x.1.1,y6.1,y2.1,())).bind fun y7=>some ((y7.1.1,y7.1.2.1,y7.1.2.2),())else(S.a6t (y1.1,y0.1,())).bind fun y8=>(S.a5u (x.2.1.1,y8.1,y2.1,())).bind fun y9=>some ((y9.1.1,y9.1.2.1,y9.1.2.2),())
theorem sa_mul (p q:Nat) (hp:(nd B10 p).length<=100000000) (hq:(nd B10 q).length<=100000000):S.a1i (nd B10 p,(nd B10 q,()))=some (nd B10 (p*q),()):=by
 unfold S.a1i;dsimp only;rw[if_pos ⟨a3w a0d _,a3w a0d _,by omega,by omega⟩,a0i a0d,a0i a0d]
theorem sa_add (p q:Nat) (hp:(nd B10 p).length<=100000000) (hq:(nd B10 q).length<=100000000):S.b1b (nd B10 p,(nd B10 q,()))=some (nd B10 (p+q),()):=by
 unfold S.b1b;dsimp only;rw[if_pos ⟨a0m a0d _,a0m a0d _,by omega,by omega⟩,a0i a0d,a0i a0d]
theorem sa_sub (p q:Nat) (hp:(nd B10 p).length<=100000000) (h:q<=p):S.a6t (nd B10 p,(nd B10 q,()))=some (nd B10 (p - q),()):=by
 unfold S.a6t;dsimp only;rw[a0i a0d,a0i a0d,if_pos ⟨a3w a0d _,a3w a0d _,a6w a0d h,h,by omega⟩]
theorem sa_cmp (p q:Nat) (hp:(nd B10 p).length<=100000000):S.a0n (nd B10 p,(nd B10 q,()))=some (b1i p q,()):=by
 unfold S.a0n;dsimp only;rw[if_pos ⟨a0m a0d _,a0m a0d _,by omega⟩,a0i a0d,a0i a0d]
theorem sa_low (n:Bool) (p q:Nat) (hp:(nd B10 p).length<=100000000) (hq:(nd B10 q).length<=100000000) (h0:q≠0):S.a5u (n,(nd B10 p,(nd B10 q,())))=some (rp B10 (c1e n p q),()):=by
 unfold S.a5u;dsimp only;rw[if_pos ⟨a0m a0d _,a0m a0d _,nd_ne a0d h0,by omega,by omega⟩,a0i a0d,a0i a0d]
def S.a4u (x:(RB×(RB×Unit))):(Option (RB×Unit)):=if c3b B10 40000000 x.1=true/\c3b B10 40000000 x.2.1=true then some (rp B10 (b4b (rv B10 x.1) (rv B10 x.2.1)),())else none
theorem S.s_l01Sum_ok (x r) (h:S.a4u x=some r):∃k,P.d9v k x=some r:=by
 obtain⟨x,y,u⟩:=x;unfold S.a4u at h;dsimp only at h;split at h
 case isFalse=>cases h
 rename_i hc;obtain⟨hx,hy⟩:=hc;cases h;rw[a6h]at hx hy;obtain⟨hx,lx⟩:=hx;obtain⟨hy,ly⟩:=hy;obtain⟨n1,p1,q1,rfl,x1,x2⟩:=b0t hx;obtain⟨n2,p2,q2,rfl,y1,y2⟩:=b0t hy;rw[b9b a0d]at lx ly ⊢;rw[b9b a0d];have hq1:q1≠0:=by have:0<q1:=lx.1;omega
 have hq2:q2≠0:=by have:0<q2:=ly.1;omega
 have m1:=a5b a0d p1 q2;have m2:=a5b a0d p2 q1;have m3:=a5b a0d q1 q2;have hq0:q1*q2≠0:=Nat.mul_ne_zero hq1 hq2;refine⟨0,?_⟩;unfold P.d9v;dsimp only;rw[sa_mul p1 q2 (by omega) (by omega),Option.bind_some,sa_mul p2 q1 (by omega) (by omega),Option.bind_some,sa_mul q1 q2 (by omega) (by omega),Option.bind_some];dsimp only;unfold b4b;dsimp only;have a1:=c7r a0d (p1*q2) (p2*q1);have a2:=b4c a0d (p1*q2) (p2*q1);have a3:=b4c a0d (p2*q1) (p1*q2)
 by_cases hn:n1=n2
 ·rw[if_pos (by simpa using hn),if_pos hn,sa_add _ _ (by omega) (by omega),Option.bind_some,sa_low n1 _ _ (by omega) (by omega) hq0,Option.bind_some]
 ·rw[if_neg (by simpa using hn),if_neg hn,sa_cmp _ _ (by omega),Option.bind_some];dsimp only;have hlt:=c2z (a:=p1*q2) (b:=p2*q1)
  by_cases hle:p2*q1<=p1*q2
  ·have hge:b1i (p1*q2) (p2*q1)>=0:=by
    rcases Int.lt_or_le (b1i (p1*q2) (p2*q1)) 0 with g|g
    ·have:=hlt.1 g;omega
    ·exact g
   rw[if_pos (decide_eq_true hge),if_pos hle,sa_sub _ _ (by omega) hle,Option.bind_some,sa_low n1 _ _ (by omega) (by omega) hq0,Option.bind_some]
  ·have hge:¬b1i (p1*q2) (p2*q1)>=0:=by
    have:=hlt.2 (Nat.lt_of_not_le hle);omega
   rw[if_neg (by simpa using hge),if_neg hle,sa_sub _ _ (by omega) (Nat.le_of_lt (Nat.lt_of_not_le hle)),Option.bind_some,sa_low n2 _ _ (by omega) (by omega) hq0,Option.bind_some]
theorem rs_add {x y:Q3} {m n:Nat} (hx:low x) (bx:below m x) (hy:low y) (bY:below n y) (hm:m<=350000000) (hn:n<=350000000):S.a4u (rp B10 x,(rp B10 y,()))=some (rp B10 (b4b x y),()):=by
 unfold S.a4u;dsimp only;rw[if_pos ⟨a3y (by decide) hx bx (by omega),a3y (by decide) hy bY (by omega)⟩,a3q a0d,a3q a0d]
abbrev P.b3i (x2:Int×Int×RB×List RB×RB×Unit) (g3:Int×Int×RB×List RB×RB×Unit->Option (RB×Unit)):Option (RB×Unit):=
 if decide (x2.1<x2.2.1)then if decide (0<=x2.1)then if decide (x2.1<(x2.2.2.2.1.length:Int))then(S.a4u ((x2.2.2.1.1,x2.2.2.1.2.1,x2.2.2.1.2.2),((x2.2.2.2.1.getD x2.1.toNat (false,[],[])).1,(x2.2.2.2.1.getD x2.1.toNat (false,[],[])).2.1,(x2.2.2.2.1.getD x2.1.toNat (false,[],[])).2.2),())).bind fun y4=>g3 (wrap .i64 (x2.1+1),x2.2.1,(y4.1.1,y4.1.2.1,y4.1.2.2),x2.2.2.2.1,(x2.2.2.2.2.1.1,x2.2.2.2.2.1.2.1,x2.2.2.2.2.1.2.2),())else none else none else some ((x2.2.2.1.1,x2.2.2.1.2.1,x2.2.2.1.2.2),())
def P.c6d (k:Nat) (x:List RB×Unit):Option (RB×Unit):=
 (S.a4y ()).bind fun y0=>loopP P.b3i k (0,(x.1.length:Int),(y0.1.1,y0.1.2.1,y0.1.2.2),x.1,(false,[],[]),())
open Classical in
def S.b3w (x:((List RB)×Unit)):(Option (RB×Unit)):=if goodS B10 x.1 then some (rp B10 (b7b (x.1.map (rv B10))),())else none
theorem d5o (a b:Q3) (ha:c3b B10 40000000 (rp B10 a)=true) (hb:c3b B10 40000000 (rp B10 b)=true):S.a4u (rp B10 a,(rp B10 b,()))=some (rp B10 (b4b a b),()):=by
 unfold S.a4u;dsimp only;rw[if_pos ⟨ha,hb⟩,a3q a0d,a3q a0d]
theorem S.d9w (x r) (h:S.b3w x=some r):∃k,P.c6d k x=some r:=by
 obtain⟨xs,u⟩:=x;unfold S.b3w at h;dsimp only at h;split at h
 case isFalse=>cases h
 rename_i hc;obtain⟨qs,rfl,hlen,hq,hg⟩:=hc;cases h;refine⟨qs.length+1,?_⟩;unfold P.c6d;have hz:S.a4y ()=some (rp B10 a0q,()):=by rfl
 dsimp only;rw[hz,Option.bind_some,b8z a0d,List.length_map];have key:=a0f (k:=qs.length+1) (b:=P.b3i) (n:=qs.length) (st:=fun i=>((i:Int),(qs.length:Int),rp B10 (b7b (qs.take i)),qs.map (rp B10),(false,(([]:List Int),([]:List Int))),())) (F:=fun i=>some (rp B10 (b7b qs),())) (fun i g hi hg'=>by
  unfold P.b3i;dsimp only at hg' ⊢;have e1:(i:Int)<(qs.length:Int):=by omega
  have e2:(0:Int)<=(i:Int):=by omega
  have e3:(i:Int)<((qs.map (rp B10)).length:Int):=by rw[List.length_map];omega
  rw[if_pos (decide_eq_true e1),if_pos (decide_eq_true e2),if_pos (decide_eq_true e3),a0o (qs.map (rp B10)) i _ (by rw[List.length_map];exact hi),List.getElem_map];have ea:=d5o (b7b (qs.take i)) qs[i] (a3y (by decide) (hg i).1 (hg i).2 (by decide)) (a3y (by decide) (hq _ (List.getElem_mem hi)).1 (hq _ (List.getElem_mem hi)).2 (by decide));rw[d4h hi]at ea;show Option.bind (S.a4u (rp B10 (b7b (qs.take i)),(rp B10 qs[i],()))) _=_;rw[ea,Option.bind_some,wr (by omega) (by omega)];exact hg') (fun g=>by
  unfold P.b3i;dsimp only;rw[if_neg (by simp),List.take_length]) (by omega)
 exact key
abbrev P.a8i (x1:Int×Int×List RB×Unit) (g2:Int×Int×List RB×Unit->Option (Bool×Unit)):Option (Bool×Unit):=
 if decide (x1.1<x1.2.1)then if decide (0<=x1.1)then if decide (x1.1<(x1.2.2.1.length:Int))then if(x1.2.2.1.getD x1.1.toNat (false,[],[])).1 then some (false,())else g2 (wrap .i64 (x1.1+1),x1.2.1,x1.2.2.1,())else none else none else some (true,())
def P.b7z (k:Nat) (x:List RB×Unit):Option (Bool×Unit):=
 loopP P.a8i k (0,(x.1.length:Int),x.1,())
def S.b0f (x:((List RB)×Unit)):(Option (Bool×Unit)):=if x.1.length<=1000000000 then some (!(x.1.any fun r=>r.1),())else none
theorem S.c9a (x r) (h:S.b0f x=some r):∃k,P.b7z k x=some r:=by
 obtain⟨xs,u⟩:=x;unfold S.b0f at h;dsimp only at h;split at h
 case isFalse=>cases h
 rename_i hc;cases h;refine⟨xs.length+1,?_⟩;unfold P.b7z;have key:=a0f (k:=xs.length+1) (b:=P.a8i) (n:=xs.length) (st:=fun i=>((i:Int),(xs.length:Int),xs,())) (F:=fun i=>some (!((xs.drop i).any fun r=>r.1),())) (fun i g hi hg=>by
  unfold P.a8i;dsimp only at hg ⊢;have e1:(i:Int)<(xs.length:Int):=by omega
  have e2:(0:Int)<=(i:Int):=by omega
  rw[if_pos (decide_eq_true e1),if_pos (decide_eq_true e2),if_pos (decide_eq_true e1),a0o xs i _ hi,List.drop_eq_getElem_cons hi,List.any_cons];cases hf:xs[i].1
  ·rw[if_neg (by decide),wr (by omega) (by omega),Bool.false_or];exact hg
  ·rw[if_pos rfl];rfl) (fun g=>by
  unfold P.a8i;dsimp only;rw[if_neg (by simp),List.drop_length];rfl) (by omega)
 exact key
def P.b9x (k:Nat) (x:List RB×Unit):Option (Bool×Unit):=
 (S.b0f (x.1,())).bind fun y0=>if y0.1 then(S.b3w (x.1,())).bind fun y1=>(S.a7f ()).bind fun y2=>(S.a4e ((y1.1.1,y1.1.2.1,y1.1.2.2),(y2.1.1,y2.1.2.1,y2.1.2.2),())).bind fun y3=>some (y3.1,())else some (false,())
open Classical in
def S.a9a (x:((List RB)×Unit)):(Option (Bool×Unit)):=if goodL B10 x.1 then some (isW (x.1.map (rv B10)),())else none
theorem S.d2c (x r) (h:S.a9a x=some r):∃k,P.b9x k x=some r:=by
 obtain⟨xs,u⟩:=x;unfold S.a9a at h;dsimp only at h;split at h
 case isFalse=>cases h
 rename_i hc;obtain⟨qs,n,rfl,hg⟩:=hc;cases h;refine⟨0,?_⟩;rw[b8z a0d];unfold P.b9x S.b0f;dsimp only;have hlen:=e2i hg;rw[if_pos (by rw[List.length_map];omega),Option.bind_some,any_rp];dsimp only;unfold isW;have es:S.b3w (qs.map (rp B10),())=some (rp B10 (b7b qs),()):=by
  unfold S.b3w;dsimp only;rw[if_pos (goodL_S ⟨qs,n,rfl,hg⟩),b8z a0d]
 have h1:S.a7f ()=some (rp B10 a6j,()):=by rfl
 have eo:S.a4e (rp B10 (b7b qs),(rp B10 a6j,()))=some (c0n (b7b qs),()):=by
  unfold S.a4e;dsimp only;rw[if_pos ⟨good_rok (by decide) hg,below_rok (B:=B10) (by decide) (c7q (by decide))⟩,a3q a0d,a3q a0d];unfold c0n a6j;dsimp only;rw[Nat.mul_one,Nat.one_mul]
 cases hm:(qs.any fun r=>r.1)
 ·rw[if_pos (show(!false)=true by rfl),es,Option.bind_some,h1,Option.bind_some];show Option.bind (S.a4e (rp B10 (b7b qs),(rp B10 a6j,()))) _=_;rw[eo,Option.bind_some];rfl
 ·rfl
abbrev s_l03Parse.A:=Int×Int×List (List ByteArray)×Int×List (List RB)×List (List RB)×Unit
abbrev s_l03Parse.B:=Option ((List (List RB)×Bool)×Unit)
abbrev P.b3j (x1:s_l03Parse.A) (g2:s_l03Parse.A->s_l03Parse.B):s_l03Parse.B:=
 if decide (x1.1<x1.2.1)then if decide (0<=x1.1)then if decide (x1.1<(x1.2.2.1.length:Int))then if(List.length (x1.2.2.1.getD x1.1.toNat []):Int) != x1.2.2.2.1 then some (([],false),())else if decide (0<=x1.1)then if decide (x1.1<(x1.2.2.1.length:Int))then(S.b6o (x1.2.2.1.getD x1.1.toNat [],())).bind fun y3=>if !y3.1.2 then some (([],false),())else(S.a9a (y3.1.1,())).bind fun y4=>if !y4.1 then some (([],false),())else if decide (((x1.2.2.2.2.2.1.length+(List.length [y3.1.1]))*24)<=140737488355328)then g2 (wrap .i64 (x1.1+1),x1.2.1,x1.2.2.1,x1.2.2.2.1,x1.2.2.2.2.1,x1.2.2.2.2.2.1++[y3.1.1],())else none else none else none else none else none else some ((x1.2.2.2.2.2.1,true),())
def P.c6e (k:Nat) (x:List (List ByteArray)×Unit):s_l03Parse.B:=
 if decide ((x.1.length:Int)<1)then some (([],false),())else if decide ((x.1.length:Int)>12)then some (([],false),())else loopP P.b3j k (0,(x.1.length:Int),x.1,(x.1.length:Int),[],[],())
def S.b3x (x:((List (List ByteArray))×Unit)):(Option (((List (List RB))×Bool)×Unit)):=if x.1.all okT=true then some (((chQ x.1).1.map (fun r=>r.map (rp B10)),(chQ x.1).2),())else none
theorem S.d9x (x r) (h:S.b3x x=some r):∃k,P.c6e k x=some r:=by
 obtain⟨rows,u⟩:=x;unfold S.b3x at h;dsimp only at h;split at h
 case isFalse=>cases h
 rename_i hc;cases h;refine⟨rows.length+1,?_⟩;unfold P.c6e chQ;dsimp only
 by_cases h1:1<=rows.length
 case neg=>
  rw[if_pos (decide_eq_true (show(rows.length:Int)<1 by omega)),decide_eq_false h1];rfl
 rw[if_neg (by simpa using(show ¬(rows.length:Int)<1 by omega)),decide_eq_true h1]
 by_cases h2:rows.length<=12
 case neg=>
  rw[if_pos (decide_eq_true (show(rows.length:Int)>12 by omega)),decide_eq_false h2];rfl
 rw[if_neg (by simpa using(show ¬(rows.length:Int)>12 by omega)),decide_eq_true h2];simp only[Bool.true_and];have key:=a0f (k:=rows.length+1) (b:=P.b3j) (n:=rows.length) (st:=fun i=>((i:Int),(rows.length:Int),rows,(rows.length:Int),([]:List (List (Bool×(List Int×List Int)))),(rows.take i).map (fun r=>(a2u r).1.map (rp B10)),())) (F:=fun i=>some (if((rows.drop i).all fun r=>decide (r.length=rows.length)&&(c1s r).2)=true then(rows.map (fun r=>(a2u r).1.map (rp B10)),true)else([],false),())) (fun i g hi hg'=>by
  have e1:(i:Int)<(rows.length:Int):=by omega
  have e2:(0:Int)<=(i:Int):=by omega
  have hr:okT rows[i]=true:=List.all_eq_true.1 hc _ (List.getElem_mem hi);have e4:(((rows.take i).map (fun r=>(a2u r).1.map (rp B10))).length+1)*24<=140737488355328:=by
   rw[List.length_map,List.length_take];omega
  unfold P.b3j;dsimp only at hg' ⊢;simp only[e1,e2,decide_true,if_true];rw[a0o rows i _ hi,List.drop_eq_getElem_cons hi,List.all_cons]
  by_cases hl:rows[i].length=rows.length
  case neg=>
   rw[if_pos (by simp;omega),decide_eq_false hl,Bool.false_and,Bool.false_and,if_neg (by decide)]
  rw[if_neg (by simp;omega),decide_eq_true hl,Bool.true_and,wtAll_snd];have ew:S.b6o (rows[i],())=some (((a2u rows[i]).1.map (rp B10),(a2u rows[i]).2),()):=by
   unfold S.b6o;exact if_pos hr
  rw[ew,Option.bind_some];dsimp only;cases w1:(a2u rows[i]).2
  ·rw[if_pos (by decide),Bool.false_and,Bool.false_and,if_neg (by decide)]
  have eW:S.a9a ((a2u rows[i]).1.map (rp B10),())=some (isW (a2u rows[i]).1,()):=by
   unfold S.a9a;dsimp only;rw[if_pos (d4i w1),b8z a0d]
  rw[if_neg (by decide),eW,Option.bind_some,Bool.true_and];dsimp only;cases hw:isW (a2u rows[i]).1
  ·rw[if_pos (by decide),Bool.false_and,if_neg (by decide)]
  rw[if_neg (by decide),Bool.true_and];simp only[List.length_cons,List.length_nil,Nat.zero_add];rw[if_pos (decide_eq_true e4),wr (by omega) (by omega),<-hg',List.take_add_one,List.getElem?_eq_getElem hi,Option.toList_some,List.map_append];rfl) (fun g=>by
  unfold P.b3j;dsimp only;rw[if_neg (by simp),List.take_length,List.drop_length];rfl) (by omega)
 rw[List.drop_zero]at key;refine Eq.trans key ?_
 by_cases ha:(rows.all fun r=>decide (r.length=rows.length)&&(c1s r).2)=true
 ·rw[if_pos ha,if_pos ha,List.map_map];rfl
 ·rw[if_neg ha,if_neg ha];rfl
def P.d2d (k:Nat) (x:Int×Int×Int×Unit):Option (Bool×Unit):=
 if decide (x.1>=x.2.1)then some (decide (x.1<=x.2.2.1),())else some (false,())
def S.c6f (x:(Int×(Int×(Int×Unit)))):(Option (Bool×Unit)):=P.d2d 0 x
theorem S.s_l00In_ok (x r) (h:S.c6f x=some r):∃k,P.d2d k x=some r:=⟨0,h⟩
def P.c0x (k:Nat) (x:List (List RB)×Int×Unit):Option (Bool×Unit):=
 (S.c6f (x.2.1,0,wrap .i64 ((x.1.length:Int) - 1),())).bind fun y0=>some (y0.1,())
def S.b6p (x:((List (List RB))×(Int×Unit))):(Option (Bool×Unit)):=P.c0x 0 x
theorem S.d9y (x r) (h:S.b6p x=some r):∃k,P.c0x k x=some r:=⟨0,h⟩
abbrev P.b3k (x1:Int×List Int×Int×Int×Unit) (g2:Int×List Int×Int×Int×Unit->Option (Bool×Unit)):Option (Bool×Unit):=
 (fun(a c d:Int) (b:List Int)=>if decide (a<(b.length:Int))then if decide (0<=a)then if decide (a<(b.length:Int))then(S.c6f (b.getD a.toNat 0,c,d,())).bind fun y3=>if !y3.1 then some (false,())else if decide (a>0)then if decide (0<=(wrap .i64 (a - 1)))then if decide ((wrap .i64 (a - 1))<(b.length:Int))then if decide (0<=a)then if decide (a<(b.length:Int))then if decide ((b.getD (Int.toNat (wrap .i64 (a - 1))) 0)>=(b.getD a.toNat 0))then some (false,())else g2 (wrap .i64 (a+1),b,c,d,())else none else none else none else none else g2 (wrap .i64 (a+1),b,c,d,())else none else none else some (true,())) x1.1 x1.2.2.1 x1.2.2.2.1 x1.2.1
def P.c6g (k:Nat) (x:List Int×Int×Int×Unit):Option (Bool×Unit):=
 loopP P.b3k k (0,x.1,x.2.1,x.2.2.1,())
def S.b3y (x:((List Int)×(Int×(Int×Unit)))):(Option (Bool×Unit)):=if x.1.length<=1000000000000000 then some (risB x.1 x.2.1 x.2.2.1,())else none
theorem S.d9z (x r) (h:S.b3y x=some r):∃k,P.c6g k x=some r:=by
 obtain⟨ts,lo,hi,u⟩:=x;unfold S.b3y at h;dsimp only at h;split at h
 case isFalse=>cases h
 rename_i hc;cases h;refine⟨ts.length+1,?_⟩;unfold P.c6g risB;dsimp only;have key:=a0f (k:=ts.length+1) (b:=P.b3k) (n:=ts.length) (st:=fun i=>((i:Int),ts,lo,hi,())) (F:=fun i=>some (((List.range ts.length).drop i).all (rs1 ts lo hi),())) (fun i g hi' hg=>by
  unfold P.b3k;dsimp only at hg ⊢;have e1:(i:Int)<(ts.length:Int):=by omega
  have e2:(0:Int)<=(i:Int):=by omega
  rw[all_drop _ hi'];unfold rs1 at hg ⊢;unfold S.c6f P.d2d;dsimp only;simp only[Int.toNat_natCast,e1,e2,decide_true,if_true]
  by_cases h1:lo<=ts.getD i 0
  case neg=>
   rw[if_neg (by simpa using h1),Option.bind_some,decide_eq_false h1];rfl
  rw[if_pos (by simpa using h1),Option.bind_some,decide_eq_true h1,Bool.true_and]
  by_cases h2:ts.getD i 0<=hi
  case neg=>
   rw[decide_eq_false h2];rfl
  rw[decide_eq_true h2,if_neg (by decide),Bool.true_and]
  by_cases h0:i=0
  ·rw[if_neg (by simp [h0]),decide_eq_true h0,wr (by omega) (by omega)];simp only[Bool.true_or,Bool.true_and];exact hg
  ·have e3:(i:Int)>0:=by omega
   have e4:(0:Int)<=(i:Int) - 1:=by omega
   have e5:(i:Int) - 1<(ts.length:Int):=by omega
   have e6:((i:Int) - 1).toNat=i - 1:=by omega
   rw[if_pos (decide_eq_true e3),wr (x:=(i:Int) - 1) (by omega) (by omega),if_pos (decide_eq_true e4),if_pos (decide_eq_true e5),e6,decide_eq_false h0,Bool.false_or,wr (x:=(i:Int)+1) (by omega) (by omega)]
   by_cases h3:ts.getD (i - 1) 0<ts.getD i 0
   ·rw[if_neg (by simpa using h3),decide_eq_true h3,Bool.true_and];exact hg
   ·rw[if_pos (by simpa using h3),decide_eq_false h3];rfl) (fun g=>by
  unfold P.b3k;dsimp only;rw[if_neg (by simp),List.drop_eq_nil_of_le (by simp)];rfl) (by omega)
 rw[List.drop_zero]at key;exact key
def P.b5p (k:Nat) (x:List (List RB)×List Int×Unit):Option (Bool×Unit):=
 if decide ((x.2.1.length:Int)>=1)then(S.b3y (x.2.1,0,wrap .i64 ((x.1.length:Int) - 1),())).bind fun y0=>some (y0.1,())else some (false,())
def S.b2k (x:((List (List RB))×((List Int)×Unit))):(Option (Bool×Unit)):=P.b5p 0 x
theorem S.d2e (x r) (h:S.b2k x=some r):∃k,P.b5p k x=some r:=⟨0,h⟩
def P.b8a (k:Nat) (x:RB×Unit):Option (RB×Unit):=
 if !x.1.1 then some ((decide ((x.1.2.1.length:Int)>0),x.1.2.1,x.1.2.2),())else some ((false,x.1.2.1,x.1.2.2),())
def S.a2s (x:(RB×Unit)):(Option (RB×Unit)):=if rok B10 40000000 x.1=true then some (rp B10 (b6d (rv B10 x.1)),())else none
theorem S.c9b (x r) (h:S.a2s x=some r):∃k,P.b8a k x=some r:=by
 obtain⟨x,u⟩:=x;unfold S.a2s at h;dsimp only at h;split at h
 case isFalse=>cases h
 rename_i hc;cases h;refine⟨0,?_⟩;obtain⟨n,p,q,rfl,_,_⟩:=b0t hc;rw[b9b a0d];unfold P.b8a b6d rp;dsimp only;rw[d8e a0d];cases n
 ·rfl
 ·rfl
def P.c6h (k:Nat) (x:RB×RB×Unit):Option (RB×Unit):=
 (S.a1i (x.1.2.1,x.2.1.2.1,())).bind fun y0=>(S.a1i (x.1.2.2,x.2.1.2.2,())).bind fun y1=>(S.a5u (! (x.1.1==x.2.1.1),y0.1,y1.1,())).bind fun y2=>some ((y2.1.1,y2.1.2.1,y2.1.2.2),())
def S.a7h (x:(RB×(RB×Unit))):(Option (RB×Unit)):=if c3b B10 40000000 x.1=true/\c3b B10 40000000 x.2.1=true then some (rp B10 (c7m (rv B10 x.1) (rv B10 x.2.1)),())else none
theorem S.e0a (x r) (h:S.a7h x=some r):∃k,P.c6h k x=some r:=by
 obtain⟨x,y,u⟩:=x;unfold S.a7h at h;dsimp only at h;split at h
 case isFalse=>cases h
 rename_i hc;obtain⟨hx,hy⟩:=hc;cases h;rw[a6h]at hx hy;obtain⟨hx,lx⟩:=hx;obtain⟨hy,ly⟩:=hy;obtain⟨n1,p1,q1,rfl,x1,x2⟩:=b0t hx;obtain⟨n2,p2,q2,rfl,y1,y2⟩:=b0t hy;rw[b9b a0d]at lx ly ⊢;rw[b9b a0d];have hq1:0<q1:=lx.1;have hq2:0<q2:=ly.1;have m1:=a5b a0d p1 p2;have m2:=a5b a0d q1 q2;have mul:∀p q:Nat,(nd B10 p).length<=100000000->(nd B10 q).length<=100000000->S.a1i (nd B10 p,(nd B10 q,()))=some (nd B10 (p*q),()):=by
  intro p q hp hq;unfold S.a1i;dsimp only;rw[if_pos ⟨a3w a0d _,a3w a0d _,by omega,by omega⟩,a0i a0d,a0i a0d]
 refine⟨0,?_⟩;unfold P.c6h c7m;dsimp only;rw[mul p1 p2 (by omega) (by omega),Option.bind_some,mul q1 q2 (by omega) (by omega),Option.bind_some];unfold S.a5u;dsimp only;rw[if_pos ⟨a0m a0d _,a0m a0d _,nd_ne a0d (Nat.ne_of_gt (Nat.mul_pos hq1 hq2)),by omega,by omega⟩,Option.bind_some,a0i a0d,a0i a0d];rfl
theorem rs_mul {x y:Q3} {m n:Nat} (hx:low x) (bx:below m x) (hy:low y) (bY:below n y) (hm:m<=350000000) (hn:n<=350000000):S.a7h (rp B10 x,(rp B10 y,()))=some (rp B10 (c7m x y),()):=by
 unfold S.a7h;dsimp only;rw[if_pos ⟨a3y (by decide) hx bx (by omega),a3y (by decide) hy bY (by omega)⟩,a3q a0d,a3q a0d]
def P.b9y (k:Nat) (x:RB×Unit):Option (Bool×Unit):=
 some ((x.1.2.1.length:Int)==0,())
def S.b0g (x:(RB×Unit)):(Option (Bool×Unit)):=P.b9y 0 x
theorem S.s_l01Zero_ok (x r) (h:S.b0g x=some r):∃k,P.b9y k x=some r:=⟨0,h⟩
def P.d7n (k:Nat) (x:RB×RB×Unit):Option (RB×Unit):=
 (S.a2s ((x.2.1.1,x.2.1.2.1,x.2.1.2.2),())).bind fun y0=>(S.a4u ((x.1.1,x.1.2.1,x.1.2.2),(y0.1.1,y0.1.2.1,y0.1.2.2),())).bind fun y1=>some ((y1.1.1,y1.1.2.1,y1.1.2.2),())
def S.b1c (x:(RB×(RB×Unit))):(Option (RB×Unit)):=if c3b B10 40000000 x.1=true/\c3b B10 40000000 x.2.1=true then some (rp B10 (b4b (rv B10 x.1) (b6d (rv B10 x.2.1))),())else none
theorem S.e0b (x r) (h:S.b1c x=some r):∃k,P.d7n k x=some r:=by
 obtain⟨x,y,u⟩:=x;unfold S.b1c at h;dsimp only at h;split at h
 case isFalse=>cases h
 rename_i hc;obtain⟨hx,hy⟩:=hc;cases h;have hy':=a6h.1 hy;refine⟨0,?_⟩;have e1:S.a2s (y,())=some (rp B10 (b6d (rv B10 y)),()):=if_pos hy'.1;have hz:c3b B10 40000000 (rp B10 (b6d (rv B10 y)))=true:=by
  rw[a6h,a3q a0d];obtain⟨n2,p2,q2,rfl,y1,y2⟩:=b0t hy'.1;rw[b9b a0d]at hy' ⊢;exact⟨b8o.2 ⟨a0m a0d _,a0m a0d _,y1,y2⟩,b0i _ hy'.2⟩
 have e2:S.a4u (x,(rp B10 (b6d (rv B10 y)),()))=some (rp B10 (b4b (rv B10 x) (b6d (rv B10 y))),()):=by
  unfold S.a4u;dsimp only;rw[if_pos ⟨hx,hz⟩,a3q a0d]
 show Option.bind (S.a2s (y,())) (fun y0=>Option.bind (S.a4u (x,(y0.1,()))) (fun y1=>some (y1.1,())))=_;rw[e1,Option.bind_some,e2,Option.bind_some]
theorem rs_sub {x y:Q3} {m n:Nat} (hx:low x) (bx:below m x) (hy:low y) (bY:below n y) (hm:m<=350000000) (hn:n<=350000000):S.b1c (rp B10 x,(rp B10 y,()))=some (rp B10 (b4b x (b6d y)),()):=by
 unfold S.b1c;dsimp only;rw[if_pos ⟨a3y (by decide) hx bx (by omega),a3y (by decide) hy bY (by omega)⟩,a3q a0d,a3q a0d]
def P.d2f (k:Nat) (x:RB×RB×Unit):Option (RB×Unit):=
 (S.a1i (x.1.2.1,x.2.1.2.2,())).bind fun y0=>(S.a1i (x.1.2.2,x.2.1.2.1,())).bind fun y1=>(S.a5u (! (x.1.1==x.2.1.1),y0.1,y1.1,())).bind fun y2=>some ((y2.1.1,y2.1.2.1,y2.1.2.2),())
def S.b2l (x:(RB×(RB×Unit))):(Option (RB×Unit)):=if c3b B10 40000000 x.1=true/\c3b B10 40000000 x.2.1=true/\(rv B10 x.2.1).2.1≠0 then some (rp B10 (b0p (rv B10 x.1) (rv B10 x.2.1)),())else none
theorem S.s_l01Over_ok (x r) (h:S.b2l x=some r):∃k,P.d2f k x=some r:=by
 obtain⟨x,y,u⟩:=x;unfold S.b2l at h;dsimp only at h;split at h
 case isFalse=>cases h
 rename_i hc;obtain⟨hx,hy,h0⟩:=hc;cases h;rw[a6h]at hx hy;obtain⟨hx,lx⟩:=hx;obtain⟨hy,ly⟩:=hy;obtain⟨n1,p1,q1,rfl,x1,x2⟩:=b0t hx;obtain⟨n2,p2,q2,rfl,y1,y2⟩:=b0t hy;rw[b9b a0d]at lx ly h0 ⊢;rw[b9b a0d];have hq1:0<q1:=lx.1;have hq2:0<p2:=Nat.pos_of_ne_zero h0;have m1:=a5b a0d p1 q2;have m2:=a5b a0d q1 p2;have mul:∀p q:Nat,(nd B10 p).length<=100000000->(nd B10 q).length<=100000000->S.a1i (nd B10 p,(nd B10 q,()))=some (nd B10 (p*q),()):=by
  intro p q hp hq;unfold S.a1i;dsimp only;rw[if_pos ⟨a3w a0d _,a3w a0d _,by omega,by omega⟩,a0i a0d,a0i a0d]
 refine⟨0,?_⟩;unfold P.d2f b0p;dsimp only;rw[mul p1 q2 (by omega) (by omega),Option.bind_some,mul q1 p2 (by omega) (by omega),Option.bind_some];unfold S.a5u;dsimp only;rw[if_pos ⟨a0m a0d _,a0m a0d _,nd_ne a0d (Nat.ne_of_gt (Nat.mul_pos hq1 hq2)),by omega,by omega⟩,Option.bind_some,a0i a0d,a0i a0d];rfl
theorem rs_over {x y:Q3} {m n:Nat} (hx:low x) (bx:below m x) (hy:low y) (bY:below n y) (h0:y.2.1≠0) (hm:m<=350000000) (hn:n<=350000000):S.b2l (rp B10 x,(rp B10 y,()))=some (rp B10 (b0p x y),()):=by
 unfold S.b2l;dsimp only;rw[if_pos ⟨a3y (by decide) hx bx (by omega),a3y (by decide) hy bY (by omega),by rw[a3q a0d];exact h0⟩,a3q a0d,a3q a0d]
def P.c4d (k:Nat) (x:List (List RB×Nat)×Int×Int×Unit):Option (Unit×List (List RB×Nat)×Unit):=
 if decide (0<=x.2.1)then if decide (x.2.1<(List.length (hd0 x.1):Int))then if decide (0<=x.2.2.1)then if decide (x.2.2.1<(List.length (hd0 x.1):Int))then if decide (0<=x.2.1)then if decide (x.2.1<(List.length (hd0 x.1):Int))then if decide (0<=x.2.2.1)then if decide (x.2.2.1<(List.length (List.set (hd0 x.1) (0+x.2.1.toNat) ((List.getD (hd0 x.1) (0+x.2.2.1.toNat) (0,0)).1,(List.getD (hd0 x.1) (0+x.2.2.1.toNat) (0,0)).2)):Int))then if dup (List.map (fun(y0:Nat×Nat)=>y0.1) (List.set (List.set (hd0 x.1) (0+x.2.1.toNat) ((List.getD (hd0 x.1) (0+x.2.2.1.toNat) (0,0)).1,(List.getD (hd0 x.1) (0+x.2.2.1.toNat) (0,0)).2)) (0+x.2.2.1.toNat) ((List.getD (hd0 x.1) (0+x.2.1.toNat) (0,0)).1,(List.getD (hd0 x.1) (0+x.2.1.toNat) (0,0)).2)))then none else some ((),nrm (List.set (List.set (hd0 x.1) (0+x.2.1.toNat) ((List.getD (hd0 x.1) (0+x.2.2.1.toNat) (0,0)).1,(List.getD (hd0 x.1) (0+x.2.2.1.toNat) (0,0)).2)) (0+x.2.2.1.toNat) ((List.getD (hd0 x.1) (0+x.2.1.toNat) (0,0)).1,(List.getD (hd0 x.1) (0+x.2.1.toNat) (0,0)).2)) (in0 x.1),())else none else none else none else none else none else none else none else none
def S.b6q (x:((List ((List RB)×Nat))×(Int×(Int×Unit)))):(Option (Unit×((List ((List RB)×Nat))×Unit))):=P.c4d 0 x
theorem S.s_l03Swap_ok (x r) (h:S.b6q x=some r):∃k,P.c4d k x=some r:=⟨0,h⟩
abbrev s_l03Solve.A:=Option ((List RB×Bool)×List (List RB×Nat)×Unit)
abbrev s_l03Solve.B:=Int×Int×Int×List (List RB×Nat)×Unit
abbrev s_l03Solve.C:=Int×Int×List (List RB×Nat)×Unit
abbrev P.a7x (g16:s_l03Solve.B->s_l03Solve.A) (x23:Int×Int×List (List RB×Nat)×Int×RB×Int×Unit) (g24:Int×Int×List (List RB×Nat)×Int×RB×Int×Unit->s_l03Solve.A):s_l03Solve.A:=
 (fun(a b d f:Int) (c:List (List RB×Nat)) (e:RB)=>if decide (a<=b)then if decide (0<=d)then if decide (d<(List.length (hd0 c):Int))then if decide (0<=d)then if decide (d<(List.length (hd0 c):Int))then if decide (0<=a)then if decide (a<(((List.getD (hd0 c) (0+d.toNat) (0,0)).2:Nat):Int))then if decide (0<=f)then if decide (f<(List.length (hd0 c):Int))then if decide (0<=a)then if decide (a<(((List.getD (hd0 c) (0+f.toNat) (0,0)).2:Nat):Int))then(S.a7h ((e.1,e.2.1,e.2.2),((List.getD (List.getD (in0 c) (List.getD (hd0 c) (0+f.toNat) (0,0)).1 []) (0+a.toNat) (false,[],[])).1,(List.getD (List.getD (in0 c) (List.getD (hd0 c) (0+f.toNat) (0,0)).1 []) (0+a.toNat) (false,[],[])).2.1,(List.getD (List.getD (in0 c) (List.getD (hd0 c) (0+f.toNat) (0,0)).1 []) (0+a.toNat) (false,[],[])).2.2),())).bind fun y25=>(S.b1c (((List.getD (List.getD (in0 c) (List.getD (hd0 c) (0+d.toNat) (0,0)).1 []) (0+a.toNat) (false,[],[])).1,(List.getD (List.getD (in0 c) (List.getD (hd0 c) (0+d.toNat) (0,0)).1 []) (0+a.toNat) (false,[],[])).2.1,(List.getD (List.getD (in0 c) (List.getD (hd0 c) (0+d.toNat) (0,0)).1 []) (0+a.toNat) (false,[],[])).2.2),(y25.1.1,y25.1.2.1,y25.1.2.2),())).bind fun y26=>if decide (0<=a)then if decide (a<(((List.getD (hd0 c) (0+d.toNat) (0,0)).2:Nat):Int))then if dup (List.map (fun(y27:Nat×Nat)=>y27.1) (hd0 c))then none else g24 (wrap .i64 (a+1),b,nrm (hd0 c) (List.set (in0 c) (List.getD (hd0 c) (0+d.toNat) (0,0)).1 (List.set (List.getD (in0 c) (List.getD (hd0 c) (0+d.toNat) (0,0)).1 []) (0+a.toNat) (y26.1.1,y26.1.2.1,y26.1.2.2))),d,(e.1,e.2.1,e.2.2),f,())else none else none else none else none else none else none else none else none else none else none else none else none else if dup (List.map (fun(y28:Nat×Nat)=>y28.1) (hd0 c))then none else g16 (wrap .i64 (d+1),b,f,nrm (hd0 c) (in0 c),())) x23.1 x23.2.1 x23.2.2.2.1 x23.2.2.2.2.2.1 x23.2.2.1 x23.2.2.2.2.1
abbrev P.a4o (k:Nat) (g3:s_l03Solve.C->s_l03Solve.A) (x15:s_l03Solve.B) (g16:s_l03Solve.B->s_l03Solve.A):s_l03Solve.A:=
 (fun(a b c:Int) (d:List (List RB×Nat))=>if decide (a<b)then if a==c then if dup (List.map (fun(y17:Nat×Nat)=>y17.1) (hd0 d))then none else g16 (wrap .i64 (a+1),b,c,nrm (hd0 d) (in0 d),())else if decide (0<=a)then if decide (a<(List.length (hd0 d):Int))then if decide (0<=c)then if decide (c<(((List.getD (hd0 d) (0+a.toNat) (0,0)).2:Nat):Int))then(S.b0g (((List.getD (List.getD (in0 d) (List.getD (hd0 d) (0+a.toNat) (0,0)).1 []) (0+c.toNat) (false,[],[])).1,(List.getD (List.getD (in0 d) (List.getD (hd0 d) (0+a.toNat) (0,0)).1 []) (0+c.toNat) (false,[],[])).2.1,(List.getD (List.getD (in0 d) (List.getD (hd0 d) (0+a.toNat) (0,0)).1 []) (0+c.toNat) (false,[],[])).2.2),())).bind fun y18=>if y18.1 then if dup (List.map (fun(y19:Nat×Nat)=>y19.1) (hd0 d))then none else g16 (wrap .i64 (a+1),b,c,nrm (hd0 d) (in0 d),())else if decide (0<=a)then if decide (a<(List.length (hd0 d):Int))then if decide (0<=c)then if decide (c<(((List.getD (hd0 d) (0+a.toNat) (0,0)).2:Nat):Int))then if decide (0<=c)then if decide (c<(List.length (hd0 d):Int))then if decide (0<=c)then if decide (c<(((List.getD (hd0 d) (0+c.toNat) (0,0)).2:Nat):Int))then(S.b2l (((List.getD (List.getD (in0 d) (List.getD (hd0 d) (0+a.toNat) (0,0)).1 []) (0+c.toNat) (false,[],[])).1,(List.getD (List.getD (in0 d) (List.getD (hd0 d) (0+a.toNat) (0,0)).1 []) (0+c.toNat) (false,[],[])).2.1,(List.getD (List.getD (in0 d) (List.getD (hd0 d) (0+a.toNat) (0,0)).1 []) (0+c.toNat) (false,[],[])).2.2),((List.getD (List.getD (in0 d) (List.getD (hd0 d) (0+c.toNat) (0,0)).1 []) (0+c.toNat) (false,[],[])).1,(List.getD (List.getD (in0 d) (List.getD (hd0 d) (0+c.toNat) (0,0)).1 []) (0+c.toNat) (false,[],[])).2.1,(List.getD (List.getD (in0 d) (List.getD (hd0 d) (0+c.toNat) (0,0)).1 []) (0+c.toNat) (false,[],[])).2.2),())).bind fun y20=>if dup (List.map (fun(y21:Nat×Nat)=>y21.1) (hd0 d))then none else loopP (P.a7x g16) k (c,b,nrm (hd0 d) (in0 d),a,(y20.1.1,y20.1.2.1,y20.1.2.2),c,())else none else none else none else none else none else none else none else none else none else none else none else none else if dup (List.map (fun(y29:Nat×Nat)=>y29.1) (hd0 d))then none else g3 (wrap .i64 (c+1),b,nrm (hd0 d) (in0 d),())) x15.1 x15.2.1 x15.2.2.1 x15.2.2.2.1
abbrev P.b3l (k:Nat) (g3:s_l03Solve.C->s_l03Solve.A) (x6:Int×Int×List (List RB×Nat)×Int×Unit) (g7:Int×Int×List (List RB×Nat)×Int×Unit->s_l03Solve.A):s_l03Solve.A:=
 (fun(a b d:Int) (c:List (List RB×Nat))=>if decide (a<b)then if decide (0<=a)then if decide (a<(List.length (hd0 c):Int))then if decide (0<=d)then if decide (d<(((List.getD (hd0 c) (0+a.toNat) (0,0)).2:Nat):Int))then(S.b0g (((List.getD (List.getD (in0 c) (List.getD (hd0 c) (0+a.toNat) (0,0)).1 []) (0+d.toNat) (false,[],[])).1,(List.getD (List.getD (in0 c) (List.getD (hd0 c) (0+a.toNat) (0,0)).1 []) (0+d.toNat) (false,[],[])).2.1,(List.getD (List.getD (in0 c) (List.getD (hd0 c) (0+a.toNat) (0,0)).1 []) (0+d.toNat) (false,[],[])).2.2),())).bind fun y8=>if y8.1 then if dup (List.map (fun(y9:Nat×Nat)=>y9.1) (hd0 c))then none else g7 (wrap .i64 (a+1),b,nrm (hd0 c) (in0 c),d,())else if a==b then if dup (List.map (fun(y10:Nat×Nat)=>y10.1) (hd0 c))then none else some (([],false),nrm (hd0 c) (in0 c),())else if dup (List.map (fun(y11:Nat×Nat)=>y11.1) (hd0 c))then none else(S.b6q (nrm (hd0 c) (in0 c),d,a,())).bind fun y12=>if dup (List.map (fun(y13:Nat×Nat)=>y13.1) (hd0 y12.2.1))then none else loopP (P.a4o k g3) k (0,b,d,nrm (hd0 y12.2.1) (in0 y12.2.1),())else none else none else none else none else if a==b then if dup (List.map (fun(y30:Nat×Nat)=>y30.1) (hd0 c))then none else some (([],false),nrm (hd0 c) (in0 c),())else if dup (List.map (fun(y31:Nat×Nat)=>y31.1) (hd0 c))then none else(S.b6q (nrm (hd0 c) (in0 c),d,a,())).bind fun y32=>if dup (List.map (fun(y33:Nat×Nat)=>y33.1) (hd0 y32.2.1))then none else loopP (P.a4o k g3) k (0,b,d,nrm (hd0 y32.2.1) (in0 y32.2.1),())) x6.1 x6.2.1 x6.2.2.2.1 x6.2.2.1
abbrev P.b1u (x52:Int×Int×List RB×List (List RB×Nat)×Unit) (g53:Int×Int×List RB×List (List RB×Nat)×Unit->s_l03Solve.A):s_l03Solve.A:=
 (fun(a b:Int) (c:List RB) (d:List (List RB×Nat))=>if decide (a<b)then if decide (0<=a)then if decide (a<(List.length (hd0 d):Int))then if decide (0<=b)then if decide (b<(((List.getD (hd0 d) (0+a.toNat) (0,0)).2:Nat):Int))then if decide (0<=a)then if decide (a<(List.length (hd0 d):Int))then if decide (0<=a)then if decide (a<(((List.getD (hd0 d) (0+a.toNat) (0,0)).2:Nat):Int))then(S.b2l (((List.getD (List.getD (in0 d) (List.getD (hd0 d) (0+a.toNat) (0,0)).1 []) (0+b.toNat) (false,[],[])).1,(List.getD (List.getD (in0 d) (List.getD (hd0 d) (0+a.toNat) (0,0)).1 []) (0+b.toNat) (false,[],[])).2.1,(List.getD (List.getD (in0 d) (List.getD (hd0 d) (0+a.toNat) (0,0)).1 []) (0+b.toNat) (false,[],[])).2.2),((List.getD (List.getD (in0 d) (List.getD (hd0 d) (0+a.toNat) (0,0)).1 []) (0+a.toNat) (false,[],[])).1,(List.getD (List.getD (in0 d) (List.getD (hd0 d) (0+a.toNat) (0,0)).1 []) (0+a.toNat) (false,[],[])).2.1,(List.getD (List.getD (in0 d) (List.getD (hd0 d) (0+a.toNat) (0,0)).1 []) (0+a.toNat) (false,[],[])).2.2),())).bind fun y54=>if decide (((c.length+(List.length [(y54.1.1,y54.1.2.1,y54.1.2.2)]))*56)<=140737488355328)then if dup (List.map (fun(y55:Nat×Nat)=>y55.1) (hd0 d))then none else g53 (wrap .i64 (a+1),b,c++[(y54.1.1,y54.1.2.1,y54.1.2.2)],nrm (hd0 d) (in0 d),())else none else none else none else none else none else none else none else none else none else if dup (List.map (fun(y56:Nat×Nat)=>y56.1) (hd0 d))then none else some ((c,true),nrm (hd0 d) (in0 d),())) x52.1 x52.2.1 x52.2.2.1 x52.2.2.2.1
abbrev P.b3m (k:Nat) (x2:s_l03Solve.C) (g3:s_l03Solve.C->s_l03Solve.A):s_l03Solve.A:=
 if decide (x2.1<x2.2.1)then if dup (List.map (fun(y4:Nat×Nat)=>y4.1) (hd0 x2.2.2.1))then none else loopP (P.b3l k g3) k (x2.1,x2.2.1,nrm (hd0 x2.2.2.1) (in0 x2.2.2.1),x2.1,())else if dup (List.map (fun(y50:Nat×Nat)=>y50.1) (hd0 x2.2.2.1))then none else loopP P.b1u k (0,x2.2.1,[],nrm (hd0 x2.2.2.1) (in0 x2.2.2.1),())
def P.c6i (k:Nat) (x:List (List RB×Nat)×Unit):s_l03Solve.A:=
 if dup (List.map (fun(y0:Nat×Nat)=>y0.1) (hd0 x.1))then none else loopP (P.b3m k) k (0,(List.length (hd0 x.1):Int),nrm (hd0 x.1) (in0 x.1),())
theorem sv_mul {a b:Q3} (ha:okq a) (hb:okq b):S.a7h (((rp B10 a).1,(rp B10 a).2.1,(rp B10 a).2.2),((rp B10 b).1,(rp B10 b).2.1,(rp B10 b).2.2),())=some (rp B10 (c7m a b),()):=rs_mul ha.1 ha.2 hb.1 hb.2 (Nat.le_refl _) (Nat.le_refl _)
theorem sv_sub {a b:Q3} (ha:okq a) (hb:okq b):S.b1c (((rp B10 a).1,(rp B10 a).2.1,(rp B10 a).2.2),((rp B10 b).1,(rp B10 b).2.1,(rp B10 b).2.2),())=some (rp B10 (b4b a (b6d b)),()):=rs_sub ha.1 ha.2 hb.1 hb.2 (Nat.le_refl _) (Nat.le_refl _)
theorem sv_over {a b:Q3} (ha:okq a) (hb:okq b) (h0:b.2.1≠0):S.b2l (((rp B10 a).1,(rp B10 a).2.1,(rp B10 a).2.2),((rp B10 b).1,(rp B10 b).2.1,(rp B10 b).2.2),())=some (rp B10 (b0p a b),()):=rs_over ha.1 ha.2 hb.1 hb.2 h0 (Nat.le_refl _) (Nat.le_refl _)
theorem sv_zero (q:Q3):S.b0g (((rp B10 q).1,(rp B10 q).2.1,(rp B10 q).2.2),())=some (decide (q.2.1=0),()):=by
 unfold S.b0g P.b9y rp;dsimp only;congr 2;rw[Bool.eq_iff_iff,beq_iff_eq,decide_eq_true_iff,<-d4g (B:=B10) (by decide),<-List.length_eq_zero_iff];omega
def svM (b:Nat->Nat->Q3) (k r j:Nat):Nat->Nat->Q3:=fun x y=>if x<r\/(x=r/\y<j)then elF true b k x y else b x y
theorem svM_row (b:Nat->Nat->Q3) (k r:Nat) (h:r=k\/(b r k).2.1=0):svM b k r 0=svM b k (r+1) 0:=by
 funext x y;unfold svM
 by_cases w:x<r
 ·rw[if_pos (Or.inl w),if_pos (Or.inl (by omega))]
 ·by_cases w2:x=r
  ·subst w2;rw[if_neg (by omega),if_pos (Or.inl (by omega))];unfold elF;rw[if_neg (fun q=>by
    rcases h with h|h
    ·rcases q.1 with q|q
     ·omega
     ·exact q.2 h
    ·exact q.2.1 h)]
  ·rw[if_neg (by omega),if_neg (by omega)]
theorem svM_wide (b:Nat->Nat->Q3) {n k r:Nat} :om B10 n (n+1) (svM b k r (n+1))=om B10 n (n+1) (svM b k (r+1) 0):=b5r fun x hx y hy=>by
 unfold svM
 by_cases w:x<r\/(x=r/\y<n+1)
 ·rw[if_pos w,if_pos (by omega)]
 ·rw[if_neg w,if_neg (by omega)]
theorem sv_inner {b:Nat->Nat->Q3} {n k:Nat} (h:elOk b n k) {r:Nat} (hr:r<n) (hrk:r≠k) (hf:(b r k).2.1≠0) (g) {K:Nat} (hK:13<K):
  loopP (P.a7x g) K ((k:Int),(n:Int),om B10 n (n+1) (svM b k r 0),(r:Int),rp B10 (b0p (b r k) (b k k)),(k:Int),())=g (((r+1:Nat):Int),(n:Int),(k:Int),om B10 n (n+1) (svM b k (r+1) 0),()):=by
 obtain⟨kn,n12,hnum,hp,hF,hM⟩:=h;have hstart:svM b k r 0=svM b k r k:=by
  funext x y;unfold svM
  by_cases w:x<r
  ·rw[if_pos (Or.inl w),if_pos (Or.inl w)]
  ·rw[if_neg (by omega)]
   by_cases w2:x=r/\y<k
   ·rw[if_pos (Or.inr w2)];unfold elF;rw[if_neg (fun q=>by omega)]
   ·rw[if_neg (fun q=>q.elim w w2)]
 rw[hstart]
 have key:=d2l (k:=K) (b:=P.a7x g) (s:=k) (n:=n+1) (st:=fun j=>((j:Int),(n:Int),om B10 n (n+1) (svM b k r j),(r:Int),rp B10 (b0p (b r k) (b k k)),(k:Int),())) (F:=fun _=>g (((r+1:Nat):Int),(n:Int),(k:Int),om B10 n (n+1) (svM b k (r+1) 0),())) (by omega) (fun j g' hkj hj hg=>by
  unfold P.a7x;dsimp only at hg ⊢;have e1:(j:Int)<=(n:Int):=by omega
  have e2:(0:Int)<=(j:Int):=by omega
  have e3:(0:Int)<=(r:Int):=by omega
  have e4:(r:Int)<(n:Int):=by omega
  have e5:(0:Int)<=(k:Int):=by omega
  have e6:(k:Int)<(n:Int):=by omega
  have e7:(j:Int)<((n+1:Nat):Int):=by omega
  have v2:svM b k r j k j=b k j:=by
   unfold svM
   by_cases w:k<r\/(k=r/\j<j)
   ·rw[if_pos w];unfold elF;rw[if_neg (fun q=>by
     rcases q.1 with q|q
     ·omega
     ·exact q.2 rfl)]
   ·rw[if_neg w]
  have v3:svM b k r j r j=b r j:=by
   unfold svM;rw[if_neg (by omega)]
  have v5:updM (svM b k r j) r j (b4b (b r j) (b6d (c7m (b0p (b r k) (b k k)) (b k j))))=svM b k r (j+1):=by
   funext x y;unfold updM
   by_cases q:x=r/\y=j
   ·rw[if_pos q,q.1,q.2];unfold svM;rw[if_pos (Or.inr ⟨rfl,by omega⟩)];unfold elF;rw[if_pos ⟨Or.inr ⟨rfl,hrk⟩,hf,hkj⟩];rfl
   ·rw[if_neg q];unfold svM
    by_cases w:x<r\/(x=r/\y<j)
    ·rw[if_pos w,if_pos (by omega)]
    ·rw[if_neg w,if_neg (by omega)]
  simp only[a0t,a4h,Int.toNat_natCast,Nat.zero_add,b8d hr,b8d kn,c1m hr,c1m kn,a4s (show j<n+1 by omega),a1d,e1,e2,e3,e4,e5,e6,e7,decide_true,if_true,Bool.false_eq_true,if_false,v2,v3];rw[sv_mul (hF r hr) (hnum k kn j (by omega)),Option.bind_some];dsimp only;rw[sv_sub (hnum r hr j (by omega)) (hM r hr j (by omega)),Option.bind_some];dsimp only;rw[wr (by omega) (by omega)];show g' (_,_,nrm (hd0 _) ((in0 _).set r (((tab (n+1) (svM b k r j r)).map (rp B10)).set j (rp B10 _))),_)=_;rw[om_write hr,v5];exact hg) (fun g'=>by
  unfold P.a7x;dsimp only;rw[if_neg (by simp;omega),a1d,a1t,wr (by omega) (by omega),if_neg (by decide),svM_wide];rfl) (by omega)
 exact key
theorem sv_rows {b:Nat->Nat->Q3} {n k:Nat} (h:elOk b n k) (g) {K:Nat} (hK:13<K):
  loopP (P.a4o K g) K ((0:Int),(n:Int),(k:Int),om B10 n (n+1) b,())=g (((k+1:Nat):Int),(n:Int),om B10 n (n+1) (elF true b k),()):=by
 have h':=h;obtain⟨kn,n12,hnum,hp,hF,hM⟩:=h;have hstart:svM b k 0 0=b:=by
  funext x y;unfold svM;rw[if_neg (by omega)]
 have key:=a0f (k:=K) (b:=P.a4o K g) (n:=n) (st:=fun r=>((r:Int),(n:Int),(k:Int),om B10 n (n+1) (svM b k r 0),())) (F:=fun _=>g (((k+1:Nat):Int),(n:Int),om B10 n (n+1) (elF true b k),())) (fun r g' hr hg=>by
  unfold P.a4o;dsimp only at hg ⊢;have e1:(r:Int)<(n:Int):=by omega
  have e3:(0:Int)<=(r:Int):=by omega
  have e5:(0:Int)<=(k:Int):=by omega
  have e6:(k:Int)<(n:Int):=by omega
  have e7:(k:Int)<((n+1:Nat):Int):=by omega
  rw[if_pos (decide_eq_true e1)]
  by_cases hrk:r=k
  ·rw[if_pos (by rw[beq_iff_eq];omega),a1d,a1t,if_neg (by decide),wr (by omega) (by omega),<-hg,<-svM_row b k r (Or.inl hrk)];rfl
  rw[if_neg (by rw[beq_iff_eq];omega)];have v1:svM b k r 0 r k=b r k:=by
   unfold svM;rw[if_neg (by omega)]
  have v2:svM b k r 0 k k=b k k:=by
   unfold svM
   by_cases w:k<r\/(k=r/\k<0)
   ·rw[if_pos w];unfold elF;rw[if_neg (fun q=>by
     rcases q.1 with q|q
     ·omega
     ·exact q.2 rfl)]
   ·rw[if_neg w]
  simp only[a0t,a4h,Int.toNat_natCast,Nat.zero_add,b8d hr,b8d kn,c1m hr,c1m kn,a4s (show k<n+1 by omega),a1d,a1t,e1,e3,e5,e6,e7,decide_true,if_true,Bool.false_eq_true,if_false,v1,v2];rw[sv_zero,Option.bind_some]
  by_cases hz:(b r k).2.1=0
  ·rw[if_pos (decide_eq_true hz),wr (by omega) (by omega),<-hg,<-svM_row b k r (Or.inr hz)];rfl
  ·rw[if_neg (by simpa using hz),sv_over (hnum r hr k (by omega)) (hnum k kn k (by omega)) hp,Option.bind_some];dsimp only;rw[<-hg];exact sv_inner h' hr hrk hz g' hK) (fun g'=>by
  unfold P.a4o;dsimp only;rw[if_neg (by simp),a1d,a1t,if_neg (by decide),wr (by omega) (by omega)];have:om B10 n (n+1) (svM b k n 0)=om B10 n (n+1) (elF true b k):=b5r fun x hx y hy=>by
   unfold svM;rw[if_pos (Or.inl hx)]
  rw[this];rfl) (by omega)
 rw[hstart]at key;exact key
theorem sv_swap {a:Nat->Nat->Q3} {r c i k:Nat} (hi:i<r) (hk:k<r):S.b6q (om B10 r c a,(i:Int),(k:Int),())=some ((),om B10 r c (swQ a i k),()):=by
 unfold S.b6q P.c4d;dsimp only;have e1:(0:Int)<=(i:Int):=by omega
 have e2:(i:Int)<(r:Int):=by omega
 have e3:(0:Int)<=(k:Int):=by omega
 have e4:(k:Int)<(r:Int):=by omega
 have hs:=om_swap (B:=B10) (c:=c) (a:=a) hi hk;have hp:∀p:Nat×Nat,(p.1,p.2)=p:=fun p=>rfl
 simp only[hp,a0t,a4h,List.length_set,Int.toNat_natCast,Nat.zero_add,hs,sw_dup,sw_nrm hi hk,e1,e2,e3,e4,decide_true,if_true,Bool.false_eq_true,if_false]
theorem sv_search {a:Nat->Nat->Q3} {n k:Nat} (hk:k<n) (n12:n<=12) (g) {K:Nat} :∀(m i F:Nat),i+m=n->m<F->pvF (fun i=>decide ((a i k).2.1≠0)) m i<n->
  loopP (P.b3l K g) F ((i:Int),(n:Int),om B10 n (n+1) a,(k:Int),())=loopP (P.a4o K g) K ((0:Int),(n:Int),(k:Int),om B10 n (n+1) (swQ a k (pvF (fun i=>decide ((a i k).2.1≠0)) m i)),()):=by
 intro m
 induction m with
 |zero=>
  intro i F hi hF hp;unfold pvF at hp;omega
 |succ m ih=>
  intro i F hi hF hp;obtain⟨F,rfl⟩:∃j,F=j+1:=⟨F - 1,by omega⟩
  rw[a0l];have ih':=ih (i+1) F (by omega) (by omega);generalize loopP (P.b3l K g) F=g' at ih' ⊢;unfold P.b3l;dsimp only;have hin:i<n:=by omega
  have e1:(i:Int)<(n:Int):=by omega
  have e2:(0:Int)<=(i:Int):=by omega
  have e3:(0:Int)<=(k:Int):=by omega
  have e4:(k:Int)<((n+1:Nat):Int):=by omega
  simp only[a0t,a4h,Int.toNat_natCast,Nat.zero_add,b8d hin,c1m hin,a4s (show k<n+1 by omega),a1d,a1t,e1,e2,e3,e4,decide_true,if_true,Bool.false_eq_true,if_false];rw[sv_zero,Option.bind_some];unfold pvF at hp ⊢
  by_cases hz:(a i k).2.1=0
  ·have hd:¬(decide ((a i k).2.1≠0)=true):=by simp [hz]
   rw[if_neg hd]at hp ⊢;rw[if_pos (decide_eq_true hz),wr (by omega) (by omega)];exact ih' hp
  ·have hd:decide ((a i k).2.1≠0)=true:=decide_eq_true hz;rw[if_pos hd]at hp ⊢;rw[if_neg (by simpa using hz),if_neg (by rw[beq_iff_eq];omega),sv_swap hk hin,Option.bind_some]
open Classical in
def S.b3z (x:((List ((List RB)×Nat))×Unit)):(Option (((List RB)×Bool)×((List ((List RB)×Nat))×Unit))):=
 if h:∃(a:Nat->Nat->Q3) (n:Nat),x.1=om B10 n (n+1) a/\elsOk true a n then some (((tab h.choose_spec.choose (solS h.choose h.choose_spec.choose)).map (rp B10),true),om B10 h.choose_spec.choose (h.choose_spec.choose+1) (elim true h.choose_spec.choose h.choose h.choose_spec.choose),())else none
theorem S.e0c (x r) (h:S.b3z x=some r):∃k,P.c6i k x=some r:=by
 obtain⟨m,u⟩:=x;unfold S.b3z at h;dsimp only at h;split at h
 case isFalse=>cases h
 rename_i hc;have hs:=hc.choose_spec.choose_spec;cases h;generalize hc.choose_spec.choose=n at*;generalize hc.choose=a at*;obtain⟨rfl,hr⟩:=hs;obtain⟨n12,hnum,hpiv,hel,hdia⟩:=hr;refine⟨14,?_⟩;unfold P.c6i;dsimp only;rw[a1d,a1t,a0t,a4h,if_neg (by decide)];have key:=a0f (k:=14) (b:=P.b3m 14) (n:=n) (st:=fun k=>((k:Int),(n:Int),om B10 n (n+1) (elim true n a k),())) (F:=fun _=>some (((tab n (solS a n)).map (rp B10),true),om B10 n (n+1) (elim true n a n),())) (fun k g hk hg=>by
  unfold P.b3m;dsimp only at hg ⊢;rw[if_pos (decide_eq_true (by omega)),a1d,a1t,if_neg (by decide)];have hp:=(hpiv k hk).2.1;have he:=hel k hk;have hs:=sv_search (a:=elim true n a k) hk n12 g (K:=14) (n - k) k 14 (by omega) (by omega) hp;rw[elim]at hg;rw[<-hg];exact hs.trans (sv_rows he g (by decide))) (fun g=>by
  unfold P.b3m;dsimp only;rw[if_neg (by simp),a1d,a1t,if_neg (by decide)];have key2:=a0f (k:=14) (b:=P.b1u) (n:=n) (st:=fun i=>((i:Int),(n:Int),(tab i (solS a n)).map (rp B10),om B10 n (n+1) (elim true n a n),())) (F:=fun _=>some (((tab n (solS a n)).map (rp B10),true),om B10 n (n+1) (elim true n a n),())) (fun i g' hi hg=>by
   unfold P.b1u;dsimp only at hg ⊢;have e1:(i:Int)<(n:Int):=by omega
   have e2:(0:Int)<=(i:Int):=by omega
   have e3:(0:Int)<=(n:Int):=by omega
   have e4:(n:Int)<((n+1:Nat):Int):=by omega
   have e5:(i:Int)<((n+1:Nat):Int):=by omega
   have e6:(i+1)*56<=140737488355328:=by omega
   simp only[a0t,a4h,Int.toNat_natCast,Nat.zero_add,b8d hi,c1m hi,a4s (show n<n+1 by omega),a4s (show i<n+1 by omega),a1d,a1t,e1,e2,e3,e4,e5,decide_true,if_true,Bool.false_eq_true,if_false];rw[sv_over (hnum n (Nat.le_refl _) i hi n (Nat.le_refl _)) (hnum n (Nat.le_refl _) i hi i (by omega)) (hdia i hi),Option.bind_some];dsimp only;simp only[List.length_map,a0s,List.length_cons,List.length_nil,Nat.zero_add,e6,decide_true,if_true];rw[wr (by omega) (by omega)];rw[<-a7y]at hg;exact hg) (fun g'=>by
   unfold P.b1u;dsimp only;rw[if_neg (by simp),a1d,a1t,if_neg (by decide)]) (by omega)
  exact key2) (by omega)
 exact key
theorem solve_s {a:Nat->Nat->Q3} {n:Nat} (h:elsOk true a n):S.b3z (om B10 n (n+1) a,())=some (((tab n (solS a n)).map (rp B10),true),om B10 n (n+1) (elim true n a n),()):=by
 unfold S.b3z;have hc:∃(b:Nat->Nat->Q3) (m:Nat),(om B10 n (n+1) a,()).1=om B10 m (m+1) b/\elsOk true b m:=⟨a,n,rfl,h⟩
 rw[dif_pos hc];obtain⟨e,hb⟩:=hc.choose_spec.choose_spec;dsimp only at e;generalize hc.choose_spec.choose=m at*;generalize hc.choose=b at*;obtain⟨e1,e2⟩:=om_inj a0d e;subst e1;have hab:∀i,i<n->∀j,j<=n->a i j=b i j:=fun i hi j hj=>(e2 i hi).2 j (by omega)
 have hg:=c6o (full:=true) hab (fun k hk=>(h.piv k hk).2.1) n (Nat.le_refl _);have hw:tab n (solS b n)=tab n (solS a n):=a0p fun i hi=>by
  unfold solS;rw[hg i hi n (Nat.le_refl _),hg i hi i (by omega)]
 rw[hw,b5r fun i hi j hj=>hg i hi j (by omega)]
end Go.Cm
end
