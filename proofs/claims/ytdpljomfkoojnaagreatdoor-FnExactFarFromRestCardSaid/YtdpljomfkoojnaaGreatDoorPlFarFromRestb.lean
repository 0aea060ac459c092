import Derived.Test.YtdpljomfkoojnaaGreatDoorPlFarFromResta
set_option linter.unusedVariables false
set_option maxRecDepth 100000
noncomputable section
namespace Go.Cm
open IntKind (wrap)
abbrev s_l01NatDiv.A:=Int×List Int×Int×Int×List Int×Int×List Int×Int×Unit
abbrev s_l01NatDiv.B:=Int×List Int×Int×List Int×List Int×Int×Unit
abbrev s_l01NatDiv.C:=Option ((List Int×List Int)×Unit)
abbrev P.b0b (g11:s_l01NatDiv.B->s_l01NatDiv.C) (x13:s_l01NatDiv.A) (g14:s_l01NatDiv.A->s_l01NatDiv.C):s_l01NatDiv.C:=
 (fun(a c d f i:Int) (b e h:List Int)=>if decide (a>=(1000000000:Int))then if decide ((0:Int)<=(IntKind.wrap .i64 (c - (1:Int))))then if decide ((IntKind.wrap .i64 (c - (1:Int)))<(b.length:Int))then if decide ((IntKind.wrap .i64 (d+(b.getD (Int.toNat (IntKind.wrap .i64 (c - (1:Int)))) (0:Int))))>=(1000000000:Int))then(S.a5h (e,b,f,IntKind.wrap .i64 (a - (1:Int)),())).bind fun y15=>if y15.1 then(S.a5i (splice e y15.2.1 (0:Nat),b,f,())).bind fun y16=>if decide ((0:Int)<=f)then if decide (f<(h.length:Int))then g11 (IntKind.wrap .i64 (f - (1:Int)),splice (splice e y15.2.1 (0:Nat)) y16.2.1 (0:Nat),c,b,h.set ((0:Nat)+f.toNat) (IntKind.wrap .i64 ((IntKind.wrap .i64 (a - (1:Int))) - (1:Int))),i,())else none else none else if decide ((0:Int)<=f)then if decide (f<(h.length:Int))then g11 (IntKind.wrap .i64 (f - (1:Int)),splice e y15.2.1 (0:Nat),c,b,h.set ((0:Nat)+f.toNat) (IntKind.wrap .i64 (a - (1:Int))),i,())else none else none else g14 (IntKind.wrap .i64 (a - (1:Int)),b,c,IntKind.wrap .i64 (d+(b.getD (Int.toNat (IntKind.wrap .i64 (c - (1:Int)))) (0:Int))),e,f,h,i,())else none else none else if decide ((0:Int)<=(IntKind.wrap .i64 (c - (2:Int))))then if decide ((IntKind.wrap .i64 (c - (2:Int)))<(b.length:Int))then if decide ((0:Int)<=(IntKind.wrap .i64 ((IntKind.wrap .i64 (f+c)) - (2:Int))))then if decide ((IntKind.wrap .i64 ((IntKind.wrap .i64 (f+c)) - (2:Int)))<(e.length:Int))then if decide ((IntKind.wrap .i64 (a*(b.getD (Int.toNat (IntKind.wrap .i64 (c - (2:Int)))) (0:Int))))>(IntKind.wrap .i64 ((IntKind.wrap .i64 (d*(1000000000:Int)))+(e.getD ((0:Nat)+(Int.toNat (IntKind.wrap .i64 ((IntKind.wrap .i64 (f+c)) - (2:Int))))) (0:Int)))))then if decide ((0:Int)<=(IntKind.wrap .i64 (c - (1:Int))))then if decide ((IntKind.wrap .i64 (c - (1:Int)))<(b.length:Int))then if decide ((IntKind.wrap .i64 (d+(b.getD (Int.toNat (IntKind.wrap .i64 (c - (1:Int)))) (0:Int))))>=(1000000000:Int))then(S.a5h (e,b,f,IntKind.wrap .i64 (a - (1:Int)),())).bind fun y17=>if y17.1 then(S.a5i (splice e y17.2.1 (0:Nat),b,f,())).bind fun y18=>if decide ((0:Int)<=f)then if decide (f<(h.length:Int))then g11 (IntKind.wrap .i64 (f - (1:Int)),splice (splice e y17.2.1 (0:Nat)) y18.2.1 (0:Nat),c,b,h.set ((0:Nat)+f.toNat) (IntKind.wrap .i64 ((IntKind.wrap .i64 (a - (1:Int))) - (1:Int))),i,())else none else none else if decide ((0:Int)<=f)then if decide (f<(h.length:Int))then g11 (IntKind.wrap .i64 (f - (1:Int)),splice e y17.2.1 (0:Nat),c,b,h.set ((0:Nat)+f.toNat) (IntKind.wrap .i64 (a - (1:Int))),i,())else none else none else g14 (IntKind.wrap .i64 (a - (1:Int)),b,c,IntKind.wrap .i64 (d+(b.getD (Int.toNat (IntKind.wrap .i64 (c - (1:Int)))) (0:Int))),e,f,h,i,())else none else none else(S.a5h (e,b,f,a,())).bind fun y19=>if y19.1 then(S.a5i (splice e y19.2.1 (0:Nat),b,f,())).bind fun y20=>if decide ((0:Int)<=f)then if decide (f<(h.length:Int))then g11 (IntKind.wrap .i64 (f - (1:Int)),splice (splice e y19.2.1 (0:Nat)) y20.2.1 (0:Nat),c,b,h.set ((0:Nat)+f.toNat) (IntKind.wrap .i64 (a - (1:Int))),i,())else none else none else if decide ((0:Int)<=f)then if decide (f<(h.length:Int))then g11 (IntKind.wrap .i64 (f - (1:Int)),splice e y19.2.1 (0:Nat),c,b,h.set ((0:Nat)+f.toNat) a,i,())else none else none else none else none else none else none) x13.1 x13.2.2.1 x13.2.2.2.1 x13.2.2.2.2.2.1 x13.2.2.2.2.2.2.2.1 x13.2.1 x13.2.2.2.2.1 x13.2.2.2.2.2.2.1
abbrev P.a4t (k:Nat) (x10:s_l01NatDiv.B) (g11:s_l01NatDiv.B->s_l01NatDiv.C):s_l01NatDiv.C:=
 (fun(a c f:Int) (b d e:List Int)=>if decide (a>=(0:Int))then if decide ((0:Int)<=(IntKind.wrap .i64 (a+c)))then if decide ((IntKind.wrap .i64 (a+c))<(b.length:Int))then if decide ((0:Int)<=(IntKind.wrap .i64 ((IntKind.wrap .i64 (a+c)) - (1:Int))))then if decide ((IntKind.wrap .i64 ((IntKind.wrap .i64 (a+c)) - (1:Int)))<(b.length:Int))then if decide ((0:Int)<=(IntKind.wrap .i64 (c - (1:Int))))then if decide ((IntKind.wrap .i64 (c - (1:Int)))<(d.length:Int))then if decide ((d.getD (Int.toNat (IntKind.wrap .i64 (c - (1:Int)))) (0:Int))=(0:Int))then none else if decide ((0:Int)<=(IntKind.wrap .i64 (c - (1:Int))))then if decide ((IntKind.wrap .i64 (c - (1:Int)))<(d.length:Int))then if decide ((d.getD (Int.toNat (IntKind.wrap .i64 (c - (1:Int)))) (0:Int))=(0:Int))then none else loopP (P.b0b g11) k (IntKind.wrap .i64 (Int.tdiv (IntKind.wrap .i64 ((IntKind.wrap .i64 ((b.getD ((0:Nat)+(Int.toNat (IntKind.wrap .i64 (a+c)))) (0:Int))*(1000000000:Int)))+(b.getD ((0:Nat)+(Int.toNat (IntKind.wrap .i64 ((IntKind.wrap .i64 (a+c)) - (1:Int))))) (0:Int)))) (d.getD (Int.toNat (IntKind.wrap .i64 (c - (1:Int)))) (0:Int))),d,c,Int.tmod (IntKind.wrap .i64 ((IntKind.wrap .i64 ((b.getD ((0:Nat)+(Int.toNat (IntKind.wrap .i64 (a+c)))) (0:Int))*(1000000000:Int)))+(b.getD ((0:Nat)+(Int.toNat (IntKind.wrap .i64 ((IntKind.wrap .i64 (a+c)) - (1:Int))))) (0:Int)))) (d.getD (Int.toNat (IntKind.wrap .i64 (c - (1:Int)))) (0:Int)),b,a,e,f,())else none else none else none else none else none else none else none else none else(S.a4e (b,())).bind fun y21=>(S.a3b (y21.1,f,())).bind fun y22=>(S.a4e (e,())).bind fun y23=>some ((y23.1,y22.1.1),())) x10.1 x10.2.2.1 x10.2.2.2.2.2.1 x10.2.1 x10.2.2.2.1 x10.2.2.2.2.1
def P.c3d (k:Nat) (x:List Int×List Int×Unit):s_l01NatDiv.C:=
 (S.a7f (x.1,())).bind fun y0=>(S.a7f (x.2.1,())).bind fun y1=>if y0.1.2 then if y1.1.2 then if decide (y1.1.1=(0:Int))then none else(S.a7e (IntKind.wrap .i64 (Int.tdiv y0.1.1 y1.1.1),())).bind fun y2=>if decide (y1.1.1=(0:Int))then none else(S.a7e (Int.tmod y0.1.1 y1.1.1,())).bind fun y3=>some ((y2.1,y3.1),())else(S.a0n (x.1,x.2.1,())).bind fun y4=>if decide (y4.1<(0:Int))then if decide ((((0:Nat)+x.1.length)*(8:Nat))<=(140737488355328:Nat))then some ((([]:List Int),([]:List Int)++x.1),())else none else if(x.2.1.length:Int)==(1:Int)then if decide ((0:Int)<(x.2.1.length:Int))then(S.a3b (x.1,x.2.1.getD (0:Nat) (0:Int),())).bind fun y5=>(S.a7e (y5.1.2,())).bind fun y6=>some ((y5.1.1,y6.1),())else none else if decide ((0:Int)<=(IntKind.wrap .i64 ((x.2.1.length:Int) - (1:Int))))then if decide ((IntKind.wrap .i64 ((x.2.1.length:Int) - (1:Int)))<(x.2.1.length:Int))then if decide ((IntKind.wrap .i64 ((x.2.1.getD (Int.toNat (IntKind.wrap .i64 ((x.2.1.length:Int) - (1:Int)))) (0:Int))+(1:Int)))=(0:Int))then none else if decide ((0:Int)<=(IntKind.wrap .i64 ((x.1.length:Int)+(1:Int))))then if decide ((IntKind.wrap .i64 ((x.1.length:Int)+(1:Int)))<=(IntKind.wrap .i64 ((x.1.length:Int)+(1:Int))))then if decide (((IntKind.wrap .i64 ((x.1.length:Int)+(1:Int)))*(8:Int))<=(281474976710656:Int))then(S.a2a (x.1,IntKind.wrap .i64 (Int.tdiv (1000000000:Int) (IntKind.wrap .i64 ((x.2.1.getD (Int.toNat (IntKind.wrap .i64 ((x.2.1.length:Int) - (1:Int)))) (0:Int))+(1:Int)))),())).bind fun y7=>(S.a2a (x.2.1,IntKind.wrap .i64 (Int.tdiv (1000000000:Int) (IntKind.wrap .i64 ((x.2.1.getD (Int.toNat (IntKind.wrap .i64 ((x.2.1.length:Int) - (1:Int)))) (0:Int))+(1:Int)))),())).bind fun y8=>if decide ((0:Int)<=(IntKind.wrap .i64 ((List.length (splice (List.replicate (Int.toNat (IntKind.wrap .i64 ((x.1.length:Int)+(1:Int)))) (0:Int)) (List.take (List.length (List.replicate (Int.toNat (IntKind.wrap .i64 ((x.1.length:Int)+(1:Int)))) (0:Int))) y7.1) (0:Nat)):Int) - (y8.1.length:Int))))then if decide ((IntKind.wrap .i64 ((List.length (splice (List.replicate (Int.toNat (IntKind.wrap .i64 ((x.1.length:Int)+(1:Int)))) (0:Int)) (List.take (List.length (List.replicate (Int.toNat (IntKind.wrap .i64 ((x.1.length:Int)+(1:Int)))) (0:Int))) y7.1) (0:Nat)):Int) - (y8.1.length:Int)))<=(IntKind.wrap .i64 ((List.length (splice (List.replicate (Int.toNat (IntKind.wrap .i64 ((x.1.length:Int)+(1:Int)))) (0:Int)) (List.take (List.length (List.replicate (Int.toNat (IntKind.wrap .i64 ((x.1.length:Int)+(1:Int)))) (0:Int))) y7.1) (0:Nat)):Int) - (y8.1.length:Int))))then if decide (((IntKind.wrap .i64 ((List.length (splice (List.replicate (Int.toNat (IntKind.wrap .i64 ((x.1.length:Int)+(1:Int)))) (0:Int)) (List.take (List.length (List.replicate (Int.toNat (IntKind.wrap .i64 ((x.1.length:Int)+(1:Int)))) (0:Int))) y7.1) (0:Nat)):Int) - (y8.1.length:Int)))*(8:Int))<=(281474976710656:Int))then loopP (P.a4t k) k (IntKind.wrap .i64 ((IntKind.wrap .i64 ((List.length (splice (List.replicate (Int.toNat (IntKind.wrap .i64 ((x.1.length:Int)+(1:Int)))) (0:Int)) (List.take (List.length (List.replicate (Int.toNat (IntKind.wrap .i64 ((x.1.length:Int)+(1:Int)))) (0:Int))) y7.1) (0:Nat)):Int) - (y8.1.length:Int))) - (1:Int)),splice (List.replicate (Int.toNat (IntKind.wrap .i64 ((x.1.length:Int)+(1:Int)))) (0:Int)) (List.take (List.length (List.replicate (Int.toNat (IntKind.wrap .i64 ((x.1.length:Int)+(1:Int)))) (0:Int))) y7.1) (0:Nat),(y8.1.length:Int),y8.1,List.replicate (Int.toNat (IntKind.wrap .i64 ((List.length (splice (List.replicate (Int.toNat (IntKind.wrap .i64 ((x.1.length:Int)+(1:Int)))) (0:Int)) (List.take (List.length (List.replicate (Int.toNat (IntKind.wrap .i64 ((x.1.length:Int)+(1:Int)))) (0:Int))) y7.1) (0:Nat)):Int) - (y8.1.length:Int)))) (0:Int),IntKind.wrap .i64 (Int.tdiv (1000000000:Int) (IntKind.wrap .i64 ((x.2.1.getD (Int.toNat (IntKind.wrap .i64 ((x.2.1.length:Int) - (1:Int)))) (0:Int))+(1:Int)))),())else none else none else none else none else none else none else none else none else(S.a0n (x.1,x.2.1,())).bind fun y24=>if decide (y24.1<(0:Int))then if decide ((((0:Nat)+x.1.length)*(8:Nat))<=(140737488355328:Nat))then some ((([]:List Int),([]:List Int)++x.1),())else none else if(x.2.1.length:Int)==(1:Int)then if decide ((0:Int)<(x.2.1.length:Int))then(S.a3b (x.1,x.2.1.getD (0:Nat) (0:Int),())).bind fun y25=>(S.a7e (y25.1.2,())).bind fun y26=>some ((y25.1.1,y26.1),())else none else if decide ((0:Int)<=(IntKind.wrap .i64 ((x.2.1.length:Int) - (1:Int))))then if decide ((IntKind.wrap .i64 ((x.2.1.length:Int) - (1:Int)))<(x.2.1.length:Int))then if decide ((IntKind.wrap .i64 ((x.2.1.getD (Int.toNat (IntKind.wrap .i64 ((x.2.1.length:Int) - (1:Int)))) (0:Int))+(1:Int)))=(0:Int))then none else if decide ((0:Int)<=(IntKind.wrap .i64 ((x.1.length:Int)+(1:Int))))then if decide ((IntKind.wrap .i64 ((x.1.length:Int)+(1:Int)))<=(IntKind.wrap .i64 ((x.1.length:Int)+(1:Int))))then if decide (((IntKind.wrap .i64 ((x.1.length:Int)+(1:Int)))*(8:Int))<=(281474976710656:Int))then(S.a2a (x.1,IntKind.wrap .i64 (Int.tdiv (1000000000:Int) (IntKind.wrap .i64 ((x.2.1.getD (Int.toNat (IntKind.wrap .i64 ((x.2.1.length:Int) - (1:Int)))) (0:Int))+(1:Int)))),())).bind fun y27=>(S.a2a (x.2.1,IntKind.wrap .i64 (Int.tdiv (1000000000:Int) (IntKind.wrap .i64 ((x.2.1.getD (Int.toNat (IntKind.wrap .i64 ((x.2.1.length:Int) - (1:Int)))) (0:Int))+(1:Int)))),())).bind fun y28=>if decide ((0:Int)<=(IntKind.wrap .i64 ((List.length (splice (List.replicate (Int.toNat (IntKind.wrap .i64 ((x.1.length:Int)+(1:Int)))) (0:Int)) (List.take (List.length (List.replicate (Int.toNat (IntKind.wrap .i64 ((x.1.length:Int)+(1:Int)))) (0:Int))) y27.1) (0:Nat)):Int) - (y28.1.length:Int))))then if decide ((IntKind.wrap .i64 ((List.length (splice (List.replicate (Int.toNat (IntKind.wrap .i64 ((x.1.length:Int)+(1:Int)))) (0:Int)) (List.take (List.length (List.replicate (Int.toNat (IntKind.wrap .i64 ((x.1.length:Int)+(1:Int)))) (0:Int))) y27.1) (0:Nat)):Int) - (y28.1.length:Int)))<=(IntKind.wrap .i64 ((List.length (splice (List.replicate (Int.toNat (IntKind.wrap .i64 ((x.1.length:Int)+(1:Int)))) (0:Int)) (List.take (List.length (List.replicate (Int.toNat (IntKind.wrap .i64 ((x.1.length:Int)+(1:Int)))) (0:Int))) y27.1) (0:Nat)):Int) - (y28.1.length:Int))))then if decide (((IntKind.wrap .i64 ((List.length (splice (List.replicate (Int.toNat (IntKind.wrap .i64 ((x.1.length:Int)+(1:Int)))) (0:Int)) (List.take (List.length (List.replicate (Int.toNat (IntKind.wrap .i64 ((x.1.length:Int)+(1:Int)))) (0:Int))) y27.1) (0:Nat)):Int) - (y28.1.length:Int)))*(8:Int))<=(281474976710656:Int))then loopP (P.a4t k) k (IntKind.wrap .i64 ((IntKind.wrap .i64 ((List.length (splice (List.replicate (Int.toNat (IntKind.wrap .i64 ((x.1.length:Int)+(1:Int)))) (0:Int)) (List.take (List.length (List.replicate (Int.toNat (IntKind.wrap .i64 ((x.1.length:Int)+(1:Int)))) (0:Int))) y27.1) (0:Nat)):Int) - (y28.1.length:Int))) - (1:Int)),splice (List.replicate (Int.toNat (IntKind.wrap .i64 ((x.1.length:Int)+(1:Int)))) (0:Int)) (List.take (List.length (List.replicate (Int.toNat (IntKind.wrap .i64 ((x.1.length:Int)+(1:Int)))) (0:Int))) y27.1) (0:Nat),(y28.1.length:Int),y28.1,List.replicate (Int.toNat (IntKind.wrap .i64 ((List.length (splice (List.replicate (Int.toNat (IntKind.wrap .i64 ((x.1.length:Int)+(1:Int)))) (0:Int)) (List.take (List.length (List.replicate (Int.toNat (IntKind.wrap .i64 ((x.1.length:Int)+(1:Int)))) (0:Int))) y27.1) (0:Nat)):Int) - (y28.1.length:Int)))) (0:Int),IntKind.wrap .i64 (Int.tdiv (1000000000:Int) (IntKind.wrap .i64 ((x.2.1.getD (Int.toNat (IntKind.wrap .i64 ((x.2.1.length:Int) - (1:Int)))) (0:Int))+(1:Int)))),())else none else none else none else none else none else none else none else none
theorem nd_tail (g:(Int×((List Int)×(Int×((List Int)×((List Int)×(Int×Unit))))))->(Option (((List Int)×(List Int))×Unit))) (F:Option (((List Int)×(List Int))×Unit)) {u0 vs:List Int} {m j:Nat} {d:Int}
  (h0:dig B10 u0=true) (hv:dig B10 vs=true) (hN:u0.length=m+vs.length) (hbig:u0.length<=100000000000) (hj:j<m) (hV:0<a0c B10 vs)
  (hg:g ((j:Int) - 1,(ldU B10 (a0c B10 vs) u0 j,((vs.length:Int),(vs,(ldQ B10 (a0c B10 vs) u0 m j,(d,()))))))=F)
  (q:Nat) (hq:q<1000000000) (h1:ldW B10 (a0c B10 vs) u0 j/a0c B10 vs<=q) (h2:q*a0c B10 vs<ldW B10 (a0c B10 vs) u0 j+a0c B10 vs) (q':Int) (hq':q'=(q:Int)):
  (Option.bind (S.a5h (ldU B10 (a0c B10 vs) u0 (j+1),(vs,((j:Int),(q',()))))) (fun(y19:(Bool×((List Int)×Unit)))=>(if(y19.1=true)then(Option.bind (S.a5i ((Go.Cm.splice (ldU B10 (a0c B10 vs) u0 (j+1)) y19.2.1 (0:Nat)),(vs,((j:Int),())))) (fun(y20:(Unit×((List Int)×Unit)))=>(if((decide ((0:Int)<=(j:Int)))=true)then(if((decide ((j:Int)<((List.length (ldQ B10 (a0c B10 vs) u0 m (j+1))):Int)))=true)then(g ((IntKind.wrap .i64 ((j:Int) - (1:Int))),((Go.Cm.splice (Go.Cm.splice (ldU B10 (a0c B10 vs) u0 (j+1)) y19.2.1 (0:Nat)) y20.2.1 (0:Nat)),((vs.length:Int),(vs,((List.set (ldQ B10 (a0c B10 vs) u0 m (j+1)) ((0:Nat)+(Int.toNat (j:Int))) (IntKind.wrap .i64 (q' - (1:Int)))),(d,())))))))
 else none)
 else none)))
 else(if((decide ((0:Int)<=(j:Int)))=true)then(if((decide ((j:Int)<((List.length (ldQ B10 (a0c B10 vs) u0 m (j+1))):Int)))=true)then(g ((IntKind.wrap .i64 ((j:Int) - (1:Int))),((Go.Cm.splice (ldU B10 (a0c B10 vs) u0 (j+1)) y19.2.1 (0:Nat)),((vs.length:Int),(vs,((List.set (ldQ B10 (a0c B10 vs) u0 m (j+1)) ((0:Nat)+(Int.toNat (j:Int))) q'),(d,())))))))
 else none)
 else none))))=F:=by
 subst hq';have hhi:=a1m hv;have hA:(u0.take j).length=j:=by simp;omega
 have hQ:=ld_Q a0e hV h0 (show j<u0.length by omega) hj;have hQl:(ldQ B10 (a0c B10 vs) u0 m (j+1)).length=m:=by unfold ldQ;rw[List.length_append,List.length_replicate,a3g];omega
 have hUl:=d0i a0e hV h0 hN hj hhi;have hs:=g3b a0e hV h0 hN hj hhi;have hs':=f7d a0e hV h0 hN hj hhi;generalize hn:vs.length=n at*;generalize hVV:a0c B10 vs=V at*;generalize hUU:ldW B10 V u0 j=U at*;generalize hR:List.replicate (m - 1 - j) (0:Int)=R at*;have hRl:R.length=m - 1 - j:=by rw[<-hR,List.length_replicate]
 have hUB:U/B10^n<1000000000:=by
  have:U/B10^n<B10:=by
   rw[Nat.div_lt_iff_lt_mul (Nat.pow_pos (by decide)),Nat.mul_comm,<-Nat.pow_succ];exact hUl
  exact this
 have hma:a0c B10 (fd B10 n U)+B10^n*(U/B10^n)=U:=by rw[b7m];exact Nat.mod_add_div _ _
 have hdm:=Nat.mod_add_div U V;have hml:=Nat.mod_lt U hV;obtain⟨n1,n2⟩:=near hV h1 h2;generalize U/B10^n=ut at*;generalize U/V=Q at*;generalize U%V=M at*;have e1:(0:Int)<=(j:Int):=by omega
 have e2:(j:Int)<(m:Int):=by omega
 rw[hs];have hlen:∀(T:Int) (X:Nat),((u0.take j++fd B10 n X)++T::R).length=j+n+1+R.length:=fun T X=>sh_len hA (a3g _ _ _)
 unfold S.a5h;dsimp only;simp only[Int.toNat_natCast,hn,hVV,hQl,e1,e2,decide_true,if_true,Nat.zero_add];rw[f7b hA,sh_win hA (a3g _ _ _),sh_top hA (a3g _ _ _),f7c hA (a3g _ _ _),hlen];rw[if_pos ⟨by first|trivial|omega,by omega,b5h (by decide) _ _,hv,by omega,by omega,by omega,by omega,by omega⟩,Option.bind_some];dsimp only;rw[<-Int.natCast_mul,<-Int.natCast_add,hma]
 by_cases hle:q*V<=U
 ·have hqe:=n1 hle;have eT:(U:Int) - ((V*q:Nat):Int)=((M:Nat):Int)+((B10^n:Nat):Int)*0:=by
   rw[hqe];omega
  rw[eT,(b1p (Nat.lt_trans hml hhi) 0).1,(b1p (Nat.lt_trans hml hhi) 0).2,Int.toNat_natCast,if_neg (by simp),<-hs',b6h (by rw[hs',hlen,hlen]),hqe,hQ,wr (by omega) (by omega)];exact hg
 ·have hqe:=n2 (by omega);have hx:B10^n+M - V<B10^n:=by omega
  have eT:(U:Int) - ((V*q:Nat):Int)=((B10^n+M - V:Nat):Int)+((B10^n:Nat):Int)*(-1):=by
   rw[hqe,Nat.mul_add];omega
  rw[eT,(b1p hx (-1)).1,(b1p hx (-1)).2,Int.toNat_natCast,if_pos (by rfl),b6h (by rw[hlen,hlen])];unfold S.a5i;dsimp only;simp only[Int.toNat_natCast,hn,hVV];rw[f7b hA,sh_win hA (a3g _ _ _),sh_top hA (a3g _ _ _),f7c hA (a3g _ _ _),hlen];rw[if_pos ⟨by first|trivial|omega,by omega,b5h (by decide) _ _,hv,by omega,by omega,by omega⟩,Option.bind_some];dsimp only;have eT2:((a0c B10 (fd B10 n (B10^n+M - V)):Nat):Int)+((B10^n:Nat):Int)* -1+(V:Int)=((M:Nat):Int)+((B10^n:Nat):Int)*0:=by
   rw[b7m,Nat.mod_eq_of_lt hx];omega
  rw[eT2,(b1p (Nat.lt_trans hml hhi) 0).1,(b1p (Nat.lt_trans hml hhi) 0).2,Int.toNat_natCast,<-hs',b6h (by rw[hs',hlen,hlen]),hqe,wr (x:=((Q+1:Nat):Int) - 1) (by omega) (by omega),show((Q+1:Nat):Int) - 1=((Q:Nat):Int) by omega,hQ,wr (by omega) (by omega)];exact hg
theorem nd_inner (g:(Int×((List Int)×(Int×((List Int)×((List Int)×(Int×Unit))))))->(Option (((List Int)×(List Int))×Unit))) (F:Option (((List Int)×(List Int))×Unit)) {u0 vs:List Int} {m j:Nat} {d:Int}
  (h0:dig B10 u0=true) (hv:dig B10 vs=true) (hN:u0.length=m+vs.length) (hbig:u0.length<=100000000000) (hj:j<m) (hn2:2<=vs.length) (hlo:B10^(vs.length - 1)<=a0c B10 vs)
  (hg:g ((j:Int) - 1,(ldU B10 (a0c B10 vs) u0 j,((vs.length:Int),(vs,(ldQ B10 (a0c B10 vs) u0 m j,(d,()))))))=F) (w:Nat):
  ∀q r k:Nat,q*(a0c B10 vs/B10^(vs.length - 1))+r=ldW B10 (a0c B10 vs) u0 j/B10^(vs.length - 1)->ldW B10 (a0c B10 vs) u0 j/a0c B10 vs<=q->r<1000000000->1000000000 - r<=w->w<k->q<=2000000000000000000->
  loopP (P.b0b g) k ((q:Int),(vs,((vs.length:Int),((r:Int),(ldU B10 (a0c B10 vs) u0 (j+1),((j:Int),(ldQ B10 (a0c B10 vs) u0 m (j+1),(d,()))))))))=F:=by
 have hV:0<a0c B10 vs:=Nat.lt_of_lt_of_le (Nat.pow_pos (by decide)) hlo;have hhi:=a1m hv;have hU:=f3m a0e hV h0 (show j<u0.length by omega);have win:=f1l a0e hn2 hlo hhi hU;have htail:=fun q hq h1 h2 q' hq'=>nd_tail g F h0 hv hN hbig hj hV hg q hq h1 h2 q' hq'
 have g1:=c2f a0e hv (i:=vs.length - 1) (by omega);have g2:=c2f a0e hv (i:=vs.length - 2) (by omega);have g3:=d6p a0e hV h0 hN hj hhi (i:=vs.length - 2) (by omega);have hsl:(ldU B10 (a0c B10 vs) u0 (j+1)).length=m+vs.length:=by unfold ldU;rw[List.length_append,a3g,List.length_take];omega
 have hv1B:a0c B10 vs/B10^(vs.length - 1)<1000000000:=by
  have:a0c B10 vs/B10^(vs.length - 1)<B10:=by
   rw[Nat.div_lt_iff_lt_mul (Nat.pow_pos (by decide)),Nat.mul_comm,<-Nat.pow_succ,show(vs.length - 1).succ=vs.length by omega];exact hhi
  exact this
 have g1':a0c B10 vs/B10^(vs.length - 1)%B10=a0c B10 vs/B10^(vs.length - 1):=Nat.mod_eq_of_lt hv1B;rw[g1']at g1;have hv1:=win.hv1;generalize hX:ldW B10 (a0c B10 vs) u0 j/B10^(vs.length - 1)=X at*;generalize hv1e:a0c B10 vs/B10^(vs.length - 1)=v1 at*;have hv2B:a0c B10 vs/B10^(vs.length - 2)%B10<1000000000:=win.hv2;have hu2B:ldW B10 (a0c B10 vs) u0 j/B10^(vs.length - 2)%B10<1000000000:=win.hu2;generalize hv2e:a0c B10 vs/B10^(vs.length - 2)%B10=v2 at*;generalize hu2e:ldW B10 (a0c B10 vs) u0 j/B10^(vs.length - 2)%B10=u2 at*
 induction w with
 |zero=>intro q r k _ _ hr hw;omega
 |succ w ih=>
  intro q r k e hq hr hw hk hqb;obtain⟨k,rfl⟩:∃k',k=k'+1:=⟨k - 1,by omega⟩
  rw[a0k];unfold P.b0b;dsimp only;have c1:(0:Int)<=(vs.length:Int) - 1:=by omega
  have c2:(vs.length:Int) - 1<(vs.length:Int):=by omega
  have c3:(0:Int)<=(vs.length:Int) - 2:=by omega
  have c4:(vs.length:Int) - 2<(vs.length:Int):=by omega
  have c5:(0:Int)<=(j:Int)+(vs.length:Int) - 2:=by omega
  have c6:(j:Int)+(vs.length:Int) - 2<((m+vs.length:Nat):Int):=by omega
  rw[hsl,wr (x:=(vs.length:Int) - 1) (by omega) (by omega),wr (x:=(vs.length:Int) - 2) (by omega) (by omega),wr (x:=(j:Int)+(vs.length:Int)) (by omega) (by omega),wr (x:=(j:Int)+(vs.length:Int) - 2) (by omega) (by omega)];simp only[c1,c2,c3,c4,c5,c6,decide_true,if_true];rw[show((vs.length:Int) - 1).toNat=vs.length - 1 by omega,show((vs.length:Int) - 2).toNat=vs.length - 2 by omega,show 0+((j:Int)+(vs.length:Int) - 2).toNat=j+(vs.length - 2) by omega,g1,g2,g3,wr (x:=(r:Int)+(v1:Int)) (by omega) (by omega)];have hstep:ldW B10 (a0c B10 vs) u0 j/a0c B10 vs<q->((r:Int)+(v1:Int)>=1000000000->(q - 1)<1000000000/\ldW B10 (a0c B10 vs) u0 j/a0c B10 vs<=q - 1/\(q - 1)*a0c B10 vs<ldW B10 (a0c B10 vs) u0 j+a0c B10 vs/\IntKind.wrap .i64 ((q:Int) - 1)=((q - 1:Nat):Int))/\(¬((r:Int)+(v1:Int)>=1000000000)->loopP (P.b0b g) k (IntKind.wrap .i64 ((q:Int) - 1),(vs,((vs.length:Int),((r:Int)+(v1:Int),(ldU B10 (a0c B10 vs) u0 (j+1),((j:Int),(ldQ B10 (a0c B10 vs) u0 m (j+1),(d,()))))))))=F):=by
   intro hlt;have hq1:1<=q:=Nat.lt_of_le_of_lt (Nat.zero_le _) hlt;have eq1:IntKind.wrap .i64 ((q:Int) - 1)=((q - 1:Nat):Int):=by
    rw[wr (by omega) (by omega)];omega
   have e':(q - 1)*v1+(r+v1)=X:=by
    obtain⟨p,rfl⟩:∃p,q=p+1:=⟨q - 1,by omega⟩
    rw[Nat.add_mul,Nat.one_mul]at e;rw[Nat.add_sub_cancel];omega
   constructor
   ·intro hge;have hd:=win.done e' (.inr (show(1000000000:Nat)<=r+v1 by omega));exact⟨hd.1,by omega,hd.2,eq1⟩
   ·intro hge;rw[eq1,<-Int.natCast_add];exact ih (q - 1) (r+v1) k e' (by omega) (by omega) (by omega) (by omega) (by omega)
  by_cases b1:q>=1000000000
  ·rw[if_pos (decide_eq_true (by omega))];obtain⟨s1,s2⟩:=hstep (win.down e hq (.inl b1))
   by_cases b2:(r:Int)+(v1:Int)>=1000000000
   ·rw[if_pos (decide_eq_true b2)];obtain⟨t1,t2,t3,t4⟩:=s1 b2;exact htail (q - 1) t1 t2 t3 _ t4
   ·rw[if_neg (by simpa using b2)];exact s2 b2
  ·rw[if_neg (by simp;omega)];have hqv:q*v2<=999999999*999999999:=Nat.mul_le_mul (by omega) (by omega);rw[<-Int.natCast_mul,wr (x:=((q*v2:Nat):Int)) (by omega) (by omega),wr (x:=(r:Int)*1000000000) (by omega) (by omega),wr (x:=(r:Int)*1000000000+(u2:Int)) (by omega) (by omega)]
   by_cases b3:q*v2>r*1000000000+u2
   ·rw[if_pos (decide_eq_true (by omega))];obtain⟨s1,s2⟩:=hstep (win.down e hq (.inr b3))
    by_cases b2:(r:Int)+(v1:Int)>=1000000000
    ·rw[if_pos (decide_eq_true b2)];obtain⟨t1,t2,t3,t4⟩:=s1 b2;exact htail (q - 1) t1 t2 t3 _ t4
    ·rw[if_neg (by simpa using b2)];exact s2 b2
   ·rw[if_neg (by simp;omega)];have hd:=win.done e (.inl ⟨show q<B10 by show q<1000000000;omega,show q*v2<=r*B10+u2 by show q*v2<=r*1000000000+u2;omega⟩);exact htail q hd.1 hq hd.2 _ rfl
theorem nd_outer {u0 vs:List Int} {m d:Nat}
  (h0:dig B10 u0=true) (hv:dig B10 vs=true) (hN:u0.length=m+vs.length) (hbig:u0.length<=100000000000) (hn2:2<=vs.length) (hlo:B10^(vs.length - 1)<=a0c B10 vs) (hd:0<d) (hd1:d<=1000000000) (ht:a0c B10 (u0.drop m)<a0c B10 vs):
  loopP (P.a4t (m+1000000010)) (m+1000000010) ((m:Int) - 1,(u0,((vs.length:Int),(vs,(List.replicate m 0,((d:Int),()))))))=some ((nd B10 (a0c B10 u0/a0c B10 vs),nd B10 (a0c B10 u0%a0c B10 vs/d)),()):=by
 have hV:0<a0c B10 vs:=Nat.lt_of_lt_of_le (Nat.pow_pos (by decide)) hlo;have hhi:=a1m hv;obtain⟨f1,f2⟩:=f1k a0e hV h0 (show m<=u0.length by omega) ht;have key:=a0g (k:=m+1000000010) (b:=P.a4t (m+1000000010)) (n:=m) (st:=fun i=>((m:Int) - 1 - (i:Int),ldU B10 (a0c B10 vs) u0 (m - i),(vs.length:Int),vs,ldQ B10 (a0c B10 vs) u0 m (m - i),(d:Int),())) (F:=fun i=>some ((nd B10 (a0c B10 u0/a0c B10 vs),nd B10 (a0c B10 u0%a0c B10 vs/d)),())) (fun i g hi hg=>by
  unfold P.a4t;dsimp only at hg ⊢;obtain⟨j,hj⟩:∃j,m - i=j+1:=⟨m - i - 1,by omega⟩
  have hjm:j<m:=by omega
  rw[show m - (i+1)=j by omega,show(m:Int) - 1 - ((i+1:Nat):Int)=(j:Int) - 1 by omega]at hg;rw[hj,show(m:Int) - 1 - (i:Int)=(j:Int) by omega];have hU:=f3m a0e hV h0 (show j<u0.length by omega);have win:=f1l a0e hn2 hlo hhi hU;have g1:=c2f a0e hv (i:=vs.length - 1) (by omega);have g3:=d6p a0e hV h0 hN hjm hhi (i:=vs.length) (by omega);have g4:=d6p a0e hV h0 hN hjm hhi (i:=vs.length - 1) (by omega);have hsl:(ldU B10 (a0c B10 vs) u0 (j+1)).length=m+vs.length:=by unfold ldU;rw[List.length_append,a3g,List.length_take];omega
  have hv1B:a0c B10 vs/B10^(vs.length - 1)<1000000000:=by
   have:a0c B10 vs/B10^(vs.length - 1)<B10:=by
    rw[Nat.div_lt_iff_lt_mul (Nat.pow_pos (by decide)),Nat.mul_comm,<-Nat.pow_succ,show(vs.length - 1).succ=vs.length by omega];exact hhi
   exact this
  have g1':a0c B10 vs/B10^(vs.length - 1)%B10=a0c B10 vs/B10^(vs.length - 1):=Nat.mod_eq_of_lt hv1B;rw[g1']at g1;have hv1:=win.hv1;have hxlt:=win.xlt;have hstart:=win.start;have hUl:=d0i a0e hV h0 hN hjm hhi;have hinner:=nd_inner g _ h0 hv hN hbig hjm hn2 hlo hg 1000000000;have hXe:ldW B10 (a0c B10 vs) u0 j/B10^vs.length%B10*1000000000+ldW B10 (a0c B10 vs) u0 j/B10^(vs.length - 1)%B10=ldW B10 (a0c B10 vs) u0 j/B10^(vs.length - 1):=by
   have hq:ldW B10 (a0c B10 vs) u0 j/B10^vs.length<B10:=by
    rw[Nat.div_lt_iff_lt_mul (Nat.pow_pos (by decide)),Nat.mul_comm,<-Nat.pow_succ];exact hUl
   rw[Nat.mod_eq_of_lt hq];have e:B10^vs.length=B10^(vs.length - 1)*B10:=by rw[<-Nat.pow_succ];congr 1;omega
   rw[e,<-Nat.div_div_eq_div_mul,Nat.mul_comm];exact Nat.div_add_mod _ _
  have hu1:ldW B10 (a0c B10 vs) u0 j/B10^vs.length%B10<1000000000:=Nat.mod_lt _ (by decide);have hu0:ldW B10 (a0c B10 vs) u0 j/B10^(vs.length - 1)%B10<1000000000:=Nat.mod_lt _ (by decide);generalize hX:ldW B10 (a0c B10 vs) u0 j/B10^(vs.length - 1)=X at*;generalize hv1e:a0c B10 vs/B10^(vs.length - 1)=v1 at*;generalize ldW B10 (a0c B10 vs) u0 j/B10^vs.length%B10=ua at*;generalize X%B10=ub at*;have c0:(j:Int)>=0:=by omega
  have c1:(0:Int)<=(j:Int)+(vs.length:Int):=by omega
  have c2:(j:Int)+(vs.length:Int)<((m+vs.length:Nat):Int):=by omega
  have c3:(0:Int)<=(j:Int)+(vs.length:Int) - 1:=by omega
  have c4:(j:Int)+(vs.length:Int) - 1<((m+vs.length:Nat):Int):=by omega
  have c5:(0:Int)<=(vs.length:Int) - 1:=by omega
  have c6:(vs.length:Int) - 1<(vs.length:Int):=by omega
  have c7:¬((v1:Int)=0):=by omega
  rw[hsl,wr (x:=(vs.length:Int) - 1) (by omega) (by omega),wr (x:=(j:Int)+(vs.length:Int)) (by omega) (by omega),wr (x:=(j:Int)+(vs.length:Int) - 1) (by omega) (by omega)];rw[show((vs.length:Int) - 1).toNat=vs.length - 1 by omega,show 0+((j:Int)+(vs.length:Int)).toNat=j+vs.length by omega,show 0+((j:Int)+(vs.length:Int) - 1).toNat=j+(vs.length - 1) by omega,g1,g3,g4];simp only[c0,c1,c2,c3,c4,c5,c6,c7,decide_true,decide_false,if_true,if_false,Bool.false_eq_true];rw[wr (x:=(ua:Int)*1000000000) (by omega) (by omega),wr (x:=(ua:Int)*1000000000+(ub:Int)) (by omega) (by omega),show(ua:Int)*1000000000+(ub:Int)=(X:Int) by omega,Int.tdiv_eq_ediv_of_nonneg (by omega),Int.tmod_eq_emod_of_nonneg (by omega),<-Int.natCast_ediv,<-Int.natCast_emod];have hX18:X<=1000000000000000000:=by omega
  have hXd:X/v1<=X:=Nat.div_le_self _ _;have hml:=Nat.mod_lt X hv1;have hdm:X/v1*v1+X%v1=X:=by rw[Nat.mul_comm];exact Nat.div_add_mod _ _
  generalize X/v1=qq at*;generalize X%v1=rr at*;rw[wr (x:=(qq:Int)) (by omega) (by omega)];exact hinner qq rr (m+1000000010) hdm hstart (by omega) (by omega) (by omega) (by omega)) (fun g=>by
  unfold P.a4t;dsimp only;rw[if_neg (by simp;omega),Nat.sub_self];have hVN:a0c B10 vs<=B10^u0.length:=Nat.le_trans (Nat.le_of_lt hhi) (Nat.pow_le_pow_right (by decide) (by omega));obtain⟨l1,l2,l3,l4,l5,l6⟩:=f7a a0e hV h0 (show m<=u0.length by omega) ht hVN;have hul:(nd B10 (a0c B10 u0%a0c B10 vs)).length<=u0.length:=by
   rw[a4o a0e,<-l1,<-l5];exact a1m l3
  unfold S.a4e S.a3b;dsimp only;rw[if_pos ⟨l3,by omega⟩,Option.bind_some];dsimp only;rw[l1,if_pos ⟨a4f a0e _,by omega,by omega,by omega⟩,Option.bind_some];dsimp only;rw[if_pos ⟨l4,by omega⟩,Option.bind_some,a0i a0e,l2,Int.toNat_natCast]) (by omega)
 rw[Nat.sub_zero,f1,f2]at key;rw[<-key,show(m:Int) - 1 - ((0:Nat):Int)=(m:Int) - 1 by omega]
theorem g1i (as bs:List Int) (ca:a2y B10 as=true) (cb:a2y B10 bs=true) (hne:bs≠ []) (la:as.length<=10000000000) (lb:bs.length<=10000000000) (hb0:a0c B10 bs≠0) (hlow:B10^(bs.length - 1)<=a0c B10 bs)
  (b:(Int×((List Int)×(Int×((List Int)×((List Int)×(Int×Unit))))))->((Int×((List Int)×(Int×((List Int)×((List Int)×(Int×Unit))))))->Option (((List Int)×(List Int))×Unit))->Option (((List Int)×(List Int))×Unit)) (hbb:b=P.a4t ((as.length+1 - bs.length)+1000000010)):
  (Option.bind (S.a0n (as,(bs,()))) (fun(y4:(Int×Unit))=>(if((decide (y4.1<(0:Int)))=true)then(if((decide ((((0:Nat)+(List.length as))*(8:Nat))<=(140737488355328:Nat)))=true)then(some ((([]:List Int),(([]:List Int)++as)),()))
 else none)
 else(if((((List.length bs):Int)==(1:Int))=true)then(if((decide ((0:Int)<((List.length bs):Int)))=true)then(Option.bind (S.a3b (as,((List.getD bs (0:Nat) (0:Int)),()))) (fun(y5:(((List Int)×Int)×Unit))=>(Option.bind (S.a7e (y5.1.2,())) (fun(y6:((List Int)×Unit))=>(some ((y5.1.1,y6.1),()))))))
 else none)
 else(if((decide ((0:Int)<=(IntKind.wrap .i64 (((List.length bs):Int) - (1:Int)))))=true)then(if((decide ((IntKind.wrap .i64 (((List.length bs):Int) - (1:Int)))<((List.length bs):Int)))=true)then(if((decide ((IntKind.wrap .i64 ((List.getD bs (Int.toNat (IntKind.wrap .i64 (((List.length bs):Int) - (1:Int)))) (0:Int))+(1:Int)))=(0:Int)))=true)then none
 else(if((decide ((0:Int)<=(IntKind.wrap .i64 (((List.length as):Int)+(1:Int)))))=true)then(if((decide ((IntKind.wrap .i64 (((List.length as):Int)+(1:Int)))<=(IntKind.wrap .i64 (((List.length as):Int)+(1:Int)))))=true)then(if((decide (((IntKind.wrap .i64 (((List.length as):Int)+(1:Int)))*(8:Int))<=(281474976710656:Int)))=true)then(Option.bind (S.a2a (as,((IntKind.wrap .i64 (Int.tdiv (1000000000:Int) (IntKind.wrap .i64 ((List.getD bs (Int.toNat (IntKind.wrap .i64 (((List.length bs):Int) - (1:Int)))) (0:Int))+(1:Int))))),()))) (fun(y7:((List Int)×Unit))=>(Option.bind (S.a2a (bs,((IntKind.wrap .i64 (Int.tdiv (1000000000:Int) (IntKind.wrap .i64 ((List.getD bs (Int.toNat (IntKind.wrap .i64 (((List.length bs):Int) - (1:Int)))) (0:Int))+(1:Int))))),()))) (fun(y8:((List Int)×Unit))=>(if((decide ((0:Int)<=(IntKind.wrap .i64 (((List.length (Go.Cm.splice (List.replicate (Int.toNat (IntKind.wrap .i64 (((List.length as):Int)+(1:Int)))) (0:Int)) (List.take (List.length (List.replicate (Int.toNat (IntKind.wrap .i64 (((List.length as):Int)+(1:Int)))) (0:Int))) y7.1) (0:Nat))):Int) - ((List.length y8.1):Int)))))=true)then(if((decide ((IntKind.wrap .i64 (((List.length (Go.Cm.splice (List.replicate (Int.toNat (IntKind.wrap .i64 (((List.length as):Int)+(1:Int)))) (0:Int)) (List.take (List.length (List.replicate (Int.toNat (IntKind.wrap .i64 (((List.length as):Int)+(1:Int)))) (0:Int))) y7.1) (0:Nat))):Int) - ((List.length y8.1):Int)))<=(IntKind.wrap .i64 (((List.length (Go.Cm.splice (List.replicate (Int.toNat (IntKind.wrap .i64 (((List.length as):Int)+(1:Int)))) (0:Int)) (List.take (List.length (List.replicate (Int.toNat (IntKind.wrap .i64 (((List.length as):Int)+(1:Int)))) (0:Int))) y7.1) (0:Nat))):Int) - ((List.length y8.1):Int)))))=true)then(if((decide (((IntKind.wrap .i64 (((List.length (Go.Cm.splice (List.replicate (Int.toNat (IntKind.wrap .i64 (((List.length as):Int)+(1:Int)))) (0:Int)) (List.take (List.length (List.replicate (Int.toNat (IntKind.wrap .i64 (((List.length as):Int)+(1:Int)))) (0:Int))) y7.1) (0:Nat))):Int) - ((List.length y8.1):Int)))*(8:Int))<=(281474976710656:Int)))=true)then(Go.Cm.loopP (X:=(Int×((List Int)×(Int×((List Int)×((List Int)×(Int×Unit))))))) (R:=(((List Int)×(List Int))×Unit)) b ((as.length+1 - bs.length)+1000000010) ((IntKind.wrap .i64 ((IntKind.wrap .i64 (((List.length (Go.Cm.splice (List.replicate (Int.toNat (IntKind.wrap .i64 (((List.length as):Int)+(1:Int)))) (0:Int)) (List.take (List.length (List.replicate (Int.toNat (IntKind.wrap .i64 (((List.length as):Int)+(1:Int)))) (0:Int))) y7.1) (0:Nat))):Int) - ((List.length y8.1):Int))) - (1:Int))),((Go.Cm.splice (List.replicate (Int.toNat (IntKind.wrap .i64 (((List.length as):Int)+(1:Int)))) (0:Int)) (List.take (List.length (List.replicate (Int.toNat (IntKind.wrap .i64 (((List.length as):Int)+(1:Int)))) (0:Int))) y7.1) (0:Nat)),(((List.length y8.1):Int),(y8.1,((List.replicate (Int.toNat (IntKind.wrap .i64 (((List.length (Go.Cm.splice (List.replicate (Int.toNat (IntKind.wrap .i64 (((List.length as):Int)+(1:Int)))) (0:Int)) (List.take (List.length (List.replicate (Int.toNat (IntKind.wrap .i64 (((List.length as):Int)+(1:Int)))) (0:Int))) y7.1) (0:Nat))):Int) - ((List.length y8.1):Int)))) (0:Int)),((IntKind.wrap .i64 (Int.tdiv (1000000000:Int) (IntKind.wrap .i64 ((List.getD bs (Int.toNat (IntKind.wrap .i64 (((List.length bs):Int) - (1:Int)))) (0:Int))+(1:Int))))),())))))))
 else none)
 else none)
 else none)))))
 else none)
 else none)
 else none))
 else none)
 else none)))))=some ((nd B10 (a0c B10 as/a0c B10 bs),nd B10 (a0c B10 as%a0c B10 bs)),()):=by
 subst hbb;have da:=a1o ca;have db:=a1o cb;have hbpos:0<bs.length:=List.length_pos_iff.2 hne;have hhib:=a1m db;have hhia:=a1m da;have sc:S.a0n (as,(bs,()))=some (b0u (a0c B10 as) (a0c B10 bs),()):=by
  unfold S.a0n;exact if_pos ⟨ca,cb,by dsimp only;omega⟩
 rw[sc,Option.bind_some];dsimp only
 by_cases hlt:a0c B10 as<a0c B10 bs
 ·have q1:(0+as.length)*8<=140737488355328:=by omega
  rw[if_pos (decide_eq_true (c2g.2 hlt)),if_pos (decide_eq_true q1),Nat.div_eq_of_lt hlt,Nat.mod_eq_of_lt hlt,a1t a0e,a1l ca,List.nil_append]
 ·rw[if_neg (by simpa [c2g]using hlt)]
  by_cases h1:bs.length=1
  ·obtain⟨b0,rfl⟩:∃b0,bs=[b0]:=by
    match bs,h1 with
    | [b0],_=>exact⟨b0,rfl⟩
   rw[if_pos (by rfl),if_pos (by rfl)];have hb:a0c B10 [b0]=b0.toNat:=by simp [a0c]
   have hbd:=(a2m _ _).1 db;have hbd1:b0<1000000000:=hbd.1.2;rw[hb]at hb0 ⊢;show Option.bind (S.a3b (as,(b0,()))) _=_;unfold S.a3b S.a7e;dsimp only;have hm:=Nat.mod_lt (a0c B10 as) (show 0<b0.toNat by omega);rw[if_pos ⟨da,by omega,by omega,by omega⟩,Option.bind_some];dsimp only;rw[if_pos ⟨by omega,by omega⟩,Option.bind_some,Int.toNat_natCast]
  ·rw[if_neg (by simp;omega)];have hn2:2<=bs.length:=by omega
   have c1:(0:Int)<=(bs.length:Int) - 1:=by omega
   have c2:(bs.length:Int) - 1<(bs.length:Int):=by omega
   have c3:(0:Int)<=(as.length:Int)+1:=by omega
   have c4:((as.length:Int)+1)*8<=281474976710656:=by omega
   have hbtB:a0c B10 bs/B10^(bs.length - 1)<1000000000:=by
    have:a0c B10 bs/B10^(bs.length - 1)<B10:=by
     rw[Nat.div_lt_iff_lt_mul (Nat.pow_pos (by decide)),Nat.mul_comm,<-Nat.pow_succ,show(bs.length - 1).succ=bs.length by omega];exact hhib
    exact this
   have hbt0:0<a0c B10 bs/B10^(bs.length - 1):=Nat.div_pos hlow (Nat.pow_pos (by decide));have g1:=c2f a0e db (i:=bs.length - 1) (by omega);rw[show a0c B10 bs/B10^(bs.length - 1)%B10=a0c B10 bs/B10^(bs.length - 1)from Nat.mod_eq_of_lt hbtB]at g1;have hbt1:a0c B10 bs<(a0c B10 bs/B10^(bs.length - 1)+1)*B10^(bs.length - 1):=by
    have:=Nat.lt_div_mul_add (show 0<B10^(bs.length - 1)from Nat.pow_pos (by decide)) (a:=a0c B10 bs);rw[Nat.add_mul,Nat.one_mul];exact this
   generalize hbt:a0c B10 bs/B10^(bs.length - 1)=bt at*;have c5:¬((bt:Int)+1=0):=by omega
   rw[wr (x:=(bs.length:Int) - 1) (by omega) (by omega),wr (x:=(as.length:Int)+1) (by omega) (by omega),show((bs.length:Int) - 1).toNat=bs.length - 1 by omega,g1,wr (x:=(bt:Int)+1) (by omega) (by omega)];simp only[c1,c2,c3,c4,c5,decide_true,decide_false,if_true,if_false,Bool.false_eq_true,Int.le_refl];rw[Int.tdiv_eq_ediv_of_nonneg (by omega),show(1000000000:Int)/((bt:Int)+1)=((1000000000/(bt+1):Nat):Int) by rw[Int.natCast_ediv];rfl];have hd0:0<1000000000/(bt+1):=Nat.div_pos (by omega) (by omega);have hd1:1000000000/(bt+1)<=1000000000:=Nat.div_le_self _ _;have hd2:(bt+1)*(1000000000/(bt+1))<=B10:=Nat.mul_div_le _ _;generalize 1000000000/(bt+1)=d at*;rw[wr (x:=(d:Int)) (by omega) (by omega)];have m1:S.a2a (as,((d:Int),()))=some (nd B10 (a0c B10 as*d),()):=by
    unfold S.a2a;exact if_pos ⟨ca,by dsimp only;omega,by dsimp only;omega,by dsimp only;omega⟩
   have m2:S.a2a (bs,((d:Int),()))=some (nd B10 (a0c B10 bs*d),()):=by
    unfold S.a2a;exact if_pos ⟨cb,by dsimp only;omega,by dsimp only;omega,by dsimp only;omega⟩
   rw[m1,Option.bind_some,m2,Option.bind_some];dsimp only;have hvhi:a0c B10 bs*d<B10^bs.length:=by
    have h3:a0c B10 bs*d<(bt+1)*B10^(bs.length - 1)*d:=Nat.mul_lt_mul_of_pos_right hbt1 hd0;have h4:(bt+1)*B10^(bs.length - 1)*d=(bt+1)*d*B10^(bs.length - 1):=by ac_rfl
    have h5:(bt+1)*d*B10^(bs.length - 1)<=B10*B10^(bs.length - 1):=Nat.mul_le_mul_right _ hd2;have h6:B10*B10^(bs.length - 1)=B10^bs.length:=by rw[Nat.mul_comm,<-Nat.pow_succ];congr 1;omega
    omega
   have hvlo:B10^(bs.length - 1)<=a0c B10 bs*d:=Nat.le_trans hlow (Nat.le_mul_of_pos_right _ hd0);have hvl:(nd B10 (a0c B10 bs*d)).length=bs.length:=by
    have h3:=(a4o a0e (a0c B10 bs*d) bs.length).2 hvhi;have h4:=a4o a0e (a0c B10 bs*d) (bs.length - 1);have h5:¬(nd B10 (a0c B10 bs*d)).length<=bs.length - 1:=by
     rw[h4];omega
    omega
   have hal:(nd B10 (a0c B10 as*d)).length<=as.length+1:=by
    rw[a4o a0e,Nat.pow_succ];exact Nat.lt_of_lt_of_le (Nat.mul_lt_mul_of_pos_right hhia hd0) (Nat.mul_le_mul_left _ hd1)
   have hab:bs.length<=as.length:=by
    rcases Nat.lt_or_ge as.length bs.length with g|g
    ·have:=b0v a0e ca cb g;omega
    ·exact g
   have hdv:a0c B10 (nd B10 (a0c B10 as*d))=a0c B10 as*d:=a0i a0e _;have hdw:a0c B10 (nd B10 (a0c B10 bs*d))=a0c B10 bs*d:=a0i a0e _;have hdu:=a4f a0e (a0c B10 as*d);have hdv':=a4f a0e (a0c B10 bs*d);generalize nd B10 (a0c B10 as*d)=ys at*;generalize nd B10 (a0c B10 bs*d)=vs at*;have hsp:Go.Cm.splice (List.replicate ((as.length:Int)+1).toNat (0:Int)) (List.take (List.length (List.replicate ((as.length:Int)+1).toNat (0:Int))) ys) 0=ys++List.replicate (as.length+1 - ys.length) 0:=by
    rw[List.length_replicate,show((as.length:Int)+1).toNat=as.length+1 by omega,List.take_of_length_le hal];unfold splice;rw[List.take_zero,List.nil_append,Nat.zero_add,List.drop_replicate]
   rw[hsp];have hu0:a0c B10 (ys++List.replicate (as.length+1 - ys.length) 0)=a0c B10 as*d:=by rw[f3j,hdv]
   have hul:(ys++List.replicate (as.length+1 - ys.length) 0).length=(as.length+1 - bs.length)+vs.length:=by
    rw[List.length_append,List.length_replicate];omega
   have hud:dig B10 (ys++List.replicate (as.length+1 - ys.length) 0)=true:=by
    rw[a1j,hdu,Bool.true_and];unfold dig;rw[List.all_eq_true];intro x hx;rw[List.eq_of_mem_replicate hx];decide
   generalize ys++List.replicate (as.length+1 - ys.length) 0=u0 at*;have ht:a0c B10 (u0.drop (as.length+1 - bs.length))<a0c B10 bs*d:=ld_top (n:=vs.length) a0e hud hu0 hd0 hul (by rw[show as.length+1 - bs.length+vs.length - 1=as.length by omega];exact hhia) (by omega) (by rw[hvl];exact hlow);have hmain:=nd_outer (m:=as.length+1 - bs.length) (d:=d) hud hdv' hul (by omega) (by omega) (by rw[hvl,hdw];exact hvlo) hd0 hd1 (by rw[hdw];exact ht);have e9:((u0.length:Int) - (vs.length:Int))=((as.length+1 - bs.length:Nat):Int):=by omega
   have c6:(0:Int)<=((as.length+1 - bs.length:Nat):Int):=by omega
   have c7:((as.length+1 - bs.length:Nat):Int)*8<=281474976710656:=by omega
   rw[e9,wr (x:=((as.length+1 - bs.length:Nat):Int)) (by omega) (by omega),wr (x:=((as.length+1 - bs.length:Nat):Int) - 1) (by omega) (by omega)];simp only[c6,c7,decide_true,if_true,Int.toNat_natCast];rw[hmain,hu0,hdw,Nat.mul_div_mul_right _ _ hd0,Nat.mul_mod_mul_right,Nat.mul_div_cancel _ hd0]
def S.a4u (x:((List Int)×((List Int)×Unit))):(Option (((List Int)×(List Int))×Unit)):=if a2y B10 x.1=true/\a2y B10 x.2.1=true/\x.2.1≠ []/\x.1.length<=10000000000/\x.2.1.length<=10000000000 then some ((nd B10 (a0c B10 x.1/a0c B10 x.2.1),nd B10 (a0c B10 x.1%a0c B10 x.2.1)),())else none
theorem S.d6e (x r) (h:S.a4u x=some r):∃k,P.c3d k x=some r:=by
 obtain⟨as,bs,u⟩:=x;unfold S.a4u at h;dsimp only at h;split at h
 case isFalse=>cases h
 rename_i hc;obtain⟨ca,cb,hne,la,lb⟩:=hc;cases h;have da:=a1o ca;have db:=a1o cb;have hbpos:0<bs.length:=List.length_pos_iff.2 hne;have hb0:a0c B10 bs≠0:=by
  intro q;have:=a1l cb;rw[q,a1t a0e]at this;exact hne this.symm
 have hlow:=e3b a0e hb0;rw[a1l cb]at hlow;have hhib:=a1m db;have hhia:=a1m da;have sa:S.a7f (as,())=some ((if as.length<=2 then((a0c B10 as:Nat):Int)else 0,decide (as.length<=2)),()):=by
  unfold S.a7f;exact if_pos ⟨da,by dsimp only;omega⟩
 have sb:S.a7f (bs,())=some ((if bs.length<=2 then((a0c B10 bs:Nat):Int)else 0,decide (bs.length<=2)),()):=by
  unfold S.a7f;exact if_pos ⟨db,by dsimp only;omega⟩
 have sc:S.a0n (as,(bs,()))=some (b0u (a0c B10 as) (a0c B10 bs),()):=by
  unfold S.a0n;exact if_pos ⟨ca,cb,by dsimp only;omega⟩
 refine⟨(as.length+1 - bs.length)+1000000010,?_⟩;unfold P.c3d;dsimp only;rw[sa,Option.bind_some,sb,Option.bind_some];dsimp only;have hsmall:∀xs:List Int,dig B10 xs=true->xs.length<=2->a0c B10 xs<1000000000000000000:=by
  intro xs hd hl;have h1:=a1m hd;have h2:B10^xs.length<=B10^2:=Nat.pow_le_pow_right (by decide) hl;have h3:B10^2=1000000000000000000:=rfl;omega
 by_cases c1:as.length<=2
 ·by_cases c2:bs.length<=2
  ·have s1:=hsmall as da c1;have s2:=hsmall bs db c2;have hz:¬(((a0c B10 bs:Nat):Int)=0):=by omega
   simp only[c1,c2,hz,decide_true,decide_false,if_true,if_false,Bool.false_eq_true];rw[Int.tdiv_eq_ediv_of_nonneg (by omega),Int.tmod_eq_emod_of_nonneg (by omega),<-Int.natCast_ediv,<-Int.natCast_emod];have hq:=Nat.div_le_self (a0c B10 as) (a0c B10 bs);have hm:=Nat.mod_le (a0c B10 as) (a0c B10 bs);generalize a0c B10 as/a0c B10 bs=Q at*;generalize a0c B10 as%a0c B10 bs=M at*;rw[wr (by omega) (by omega)];unfold S.a7e;dsimp only;rw[if_pos ⟨by omega,by omega⟩,Option.bind_some,if_pos ⟨by omega,by omega⟩,Option.bind_some,Int.toNat_natCast,Int.toNat_natCast]
  ·rw[if_pos (decide_eq_true c1),if_neg (by simpa using c2)];exact g1i as bs ca cb hne la lb hb0 hlow _ rfl
 ·rw[if_neg (by simpa using c1)];exact g1i as bs ca cb hne la lb hb0 hlow _ rfl
abbrev P.b8o (x1:List Int×List Int×Unit) (g2:List Int×List Int×Unit->Option (List Int×Unit)):Option (List Int×Unit):=
 if decide ((x1.1.length:Int)>(0:Int))then(S.a4u (x1.2.1,x1.1,())).bind fun y3=>g2 (y3.1.2,x1.1,())else some (x1.2.1,())
def P.e0z (k:Nat) (x:List Int×List Int×Unit):Option (List Int×Unit):=
 loopP P.b8o k (x.2.1,x.1,())
theorem g1j {B:Nat} (hB:2<=B) {xs:List Int} (h:a2y B xs=true) (hn:xs≠ []):a0c B xs≠0:=by
 intro q;have:=a1l h;rw[q,a1t hB]at this;exact hn this.symm
theorem f5k {B:Nat} (hB:2<=B) {m n:Nat} (h:m<=n):(nd B m).length<=(nd B n).length:=by
 rw[a4o hB];exact Nat.lt_of_le_of_lt h ((a4o hB n _).1 (Nat.le_refl _))
theorem sg_loop (n:Nat):∀(as bs:List Int) (k:Nat),a2y B10 as=true->a2y B10 bs=true->as.length<=10000000000->bs.length<=10000000000->a0c B10 bs<=n->n<k->loopP P.b8o k (bs,(as,()))=some (nd B10 (Nat.gcd (a0c B10 as) (a0c B10 bs)),()):=by
 induction n using Nat.strongRecOn with
 |ind n ih=>
  intro as bs k ca cb la lb hn hk;obtain⟨k,rfl⟩:∃j,k=j+1:=⟨k - 1,by omega⟩
  rw[a0k];unfold P.b8o;dsimp only
  by_cases hb:bs=[]
  ·subst hb;rw[if_neg (by simp),show a0c B10 []=0 from rfl,Nat.gcd_zero_right,a1l ca]
  ·have hpos:0<bs.length:=List.length_pos_iff.2 hb;have hb0:=g1j a0e cb hb;have hm:=Nat.mod_lt (a0c B10 as) (show 0<a0c B10 bs by omega);have hc:(bs.length:Int)>0:=by omega
   rw[if_pos (decide_eq_true hc)];show Option.bind (S.a4u (as,(bs,()))) (fun y3=>loopP P.b8o k (y3.1.2,(bs,())))=_;unfold S.a4u;dsimp only;rw[if_pos ⟨ca,cb,hb,la,lb⟩,Option.bind_some];dsimp only;have hl:(nd B10 (a0c B10 as%a0c B10 bs)).length<=bs.length:=by
    have:=f5k a0e (Nat.le_of_lt hm);rwa [a1l cb]at this
   have hd:a0c B10 (nd B10 (a0c B10 as%a0c B10 bs))=a0c B10 as%a0c B10 bs:=a0i a0e _;rw[ih (a0c B10 as%a0c B10 bs) (by omega) bs (nd B10 (a0c B10 as%a0c B10 bs)) k cb (a0j a0e _) lb (by omega) (by rw[hd];exact Nat.le_refl _) (by omega),hd,d8t]
def S.a3l (x:((List Int)×((List Int)×Unit))):(Option ((List Int)×Unit)):=if a2y B10 x.1=true/\a2y B10 x.2.1=true/\x.1.length<=10000000000/\x.2.1.length<=10000000000 then some (nd B10 (Nat.gcd (a0c B10 x.1) (a0c B10 x.2.1)),())else none
theorem S.f0q (x r) (h:S.a3l x=some r):∃k,P.e0z k x=some r:=by
 obtain⟨as,bs,u⟩:=x;unfold S.a3l at h;dsimp only at h;split at h
 case isFalse=>cases h
 rename_i hc;obtain⟨ca,cb,la,lb⟩:=hc;cases h;refine⟨a0c B10 bs+1,?_⟩;unfold P.e0z;exact sg_loop (a0c B10 bs) as bs _ ca cb la lb (Nat.le_refl _) (by omega)
def P.d3x (k:Nat) (x:Bool×List Int×List Int×Unit):Option (RB×Unit):=
 (S.a3l (x.2.1,x.2.2.1,())).bind fun y0=>(S.a0n (y0.1,[(1:Int)],())).bind fun y1=>if y1.1 != (0:Int)then(S.a4u (x.2.1,y0.1,())).bind fun y2=>(S.a4u (x.2.2.1,y0.1,())).bind fun y3=>if x.1 then some ((decide ((y2.1.1.length:Int)>(0:Int)),y2.1.1,y3.1.1),())else some ((false,y2.1.1,y3.1.1),())else if x.1 then some ((decide ((x.2.1.length:Int)>(0:Int)),x.2.1,x.2.2.1),())else some ((false,x.2.1,x.2.2.1),())
def S.a6c (x:(Bool×((List Int)×((List Int)×Unit)))):(Option (RB×Unit)):=if a2y B10 x.2.1=true/\a2y B10 x.2.2.1=true/\x.2.2.1≠ []/\x.2.1.length<=10000000000/\x.2.2.1.length<=10000000000 then some (rp B10 (c0s x.1 (a0c B10 x.2.1) (a0c B10 x.2.2.1)),())else none
theorem S.e6u (x r) (h:S.a6c x=some r):∃k,P.d3x k x=some r:=by
 obtain⟨neg,as,bs',u⟩:=x;unfold S.a6c at h;dsimp only at h;split at h
 case isFalse=>cases h
 rename_i hc;obtain⟨ca,cb,hne,la,lb⟩:=hc;cases h;refine⟨0,?_⟩;unfold P.d3x;dsimp only;have hb0:a0c B10 bs'≠0:=fun e=>hne ((a9o a0e cb).2 e)
 have hg:=f7h a0e ca cb hb0;have hgp:0<Nat.gcd (a0c B10 as) (a0c B10 bs'):=Nat.gcd_pos_of_pos_right _ (by omega);have e1:S.a3l (as,(bs',()))=some (nd B10 (Nat.gcd (a0c B10 as) (a0c B10 bs')),()):=by
  unfold S.a3l;exact if_pos ⟨ca,cb,la,lb⟩
 rw[e1,Option.bind_some];dsimp only;unfold c0s rp;dsimp only;have hgne:nd B10 (Nat.gcd (a0c B10 as) (a0c B10 bs'))≠ []:=by
  rw[b4g a0e (by omega)];simp
 have hgd:a0c B10 (nd B10 (Nat.gcd (a0c B10 as) (a0c B10 bs')))=Nat.gcd (a0c B10 as) (a0c B10 bs'):=a0i a0e _;have hgc:a2y B10 (nd B10 (Nat.gcd (a0c B10 as) (a0c B10 bs')))=true:=a0j a0e _;have e2:∀xs,a2y B10 xs=true->xs.length<=10000000000->S.a4u (xs,(nd B10 (Nat.gcd (a0c B10 as) (a0c B10 bs')),()))=some ((nd B10 (a0c B10 xs/Nat.gcd (a0c B10 as) (a0c B10 bs')),nd B10 (a0c B10 xs%Nat.gcd (a0c B10 as) (a0c B10 bs'))),()):=by
  intro xs cx lx;unfold S.a4u;dsimp only;rw[if_pos ⟨cx,hgc,hgne,lx,by omega⟩,hgd]
 have e3:S.a0n (nd B10 (Nat.gcd (a0c B10 as) (a0c B10 bs')),([1],()))=some (b0u (Nat.gcd (a0c B10 as) (a0c B10 bs')) 1,()):=by
  unfold S.a0n;dsimp only;rw[if_pos ⟨hgc,b6j a0e,by omega⟩,hgd,b7p]
 rw[e3,Option.bind_some,e2 as ca la,Option.bind_some,e2 bs' cb lb,Option.bind_some];dsimp only;have hpos:∀xs:List Int,a2y B10 xs=true->(decide (((xs.length:Nat):Int)>0))=decide (a0c B10 xs≠0):=by
  intro xs cx;have:=a9o a0e cx;rw[decide_eq_decide];constructor
  ·intro h e;rw[this.2 e]at h;simp at h
  ·intro h;have:0<xs.length:=List.length_pos_iff.2 (fun e=>h (this.1 e));omega
 have hp2:decide (a0c B10 as/Nat.gcd (a0c B10 as) (a0c B10 bs')≠0)=decide (a0c B10 as≠0):=by
  rw[decide_eq_decide];have hdv:Nat.gcd (a0c B10 as) (a0c B10 bs') ∣ a0c B10 as:=Nat.gcd_dvd_left _ _;constructor
  ·intro h e;rw[e,Nat.zero_div]at h;exact h rfl
  ·intro h e;have:=Nat.div_pos (Nat.le_of_dvd (by omega) hdv) hgp;omega
 rw[hpos _ (a0j a0e _),hpos as ca,a0i a0e,hp2]
 by_cases h1:Nat.gcd (a0c B10 as) (a0c B10 bs')=1
 ·rw[if_neg (by simpa using a4z.2 h1),h1,Nat.div_one,Nat.div_one,a1l ca,a1l cb];cases neg<;>simp
 ·rw[if_pos (by simpa using fun q=>h1 (a4z.1 q))];cases neg<;>simp
def P.e1a (k:Nat) (x:RB×RB×Unit):Option (RB×Unit):=
 (S.a1d (x.1.2.1,x.2.1.2.2,())).bind fun y0=>(S.a1d (x.2.1.2.1,x.1.2.2,())).bind fun y1=>(S.a1d (x.1.2.2,x.2.1.2.2,())).bind fun y2=>if x.1.1==x.2.1.1 then(S.b0s (y0.1,y1.1,())).bind fun y3=>(S.a6c (x.1.1,y3.1,y2.1,())).bind fun y4=>some ((y4.1.1,y4.1.2.1,y4.1.2.2),())else(S.a0n (y0.1,y1.1,())).bind fun y5=>if decide (y5.1>=0)then(S.a6r (y0.1,y1.1,())).bind fun y6=>(S.a6c (x.1.1,y6.1,y2.1,())).bind fun y7=>some ((y7.1.1,y7.1.2.1,y7.1.2.2),())else(S.a6r (y1.1,y0.1,())).bind fun y8=>(S.a6c (x.2.1.1,y8.1,y2.1,())).bind fun y9=>some ((y9.1.1,y9.1.2.1,y9.1.2.2),())
theorem g1k (p q:Nat) (hp:(nd B10 p).length<=100000000) (hq:(nd B10 q).length<=100000000):S.a1d (nd B10 p,(nd B10 q,()))=some (nd B10 (p*q),()):=by
 unfold S.a1d;dsimp only;rw[if_pos ⟨a4f a0e _,a4f a0e _,by omega,by omega⟩,a0i a0e,a0i a0e]
theorem sa_add (p q:Nat) (hp:(nd B10 p).length<=100000000) (hq:(nd B10 q).length<=100000000):S.b0s (nd B10 p,(nd B10 q,()))=some (nd B10 (p+q),()):=by
 unfold S.b0s;dsimp only;rw[if_pos ⟨a0j a0e _,a0j a0e _,by omega,by omega⟩,a0i a0e,a0i a0e]
theorem sa_sub (p q:Nat) (hp:(nd B10 p).length<=100000000) (h:q<=p):S.a6r (nd B10 p,(nd B10 q,()))=some (nd B10 (p - q),()):=by
 unfold S.a6r;dsimp only;rw[a0i a0e,a0i a0e,if_pos ⟨a4f a0e _,a4f a0e _,a6t a0e h,h,by omega⟩]
theorem sa_cmp (p q:Nat) (hp:(nd B10 p).length<=100000000):S.a0n (nd B10 p,(nd B10 q,()))=some (b0u p q,()):=by
 unfold S.a0n;dsimp only;rw[if_pos ⟨a0j a0e _,a0j a0e _,by omega⟩,a0i a0e,a0i a0e]
theorem g1l (n:Bool) (p q:Nat) (hp:(nd B10 p).length<=100000000) (hq:(nd B10 q).length<=100000000) (h0:q≠0):S.a6c (n,(nd B10 p,(nd B10 q,())))=some (rp B10 (c0s n p q),()):=by
 unfold S.a6c;dsimp only;rw[if_pos ⟨a0j a0e _,a0j a0e _,f3p a0e h0,by omega,by omega⟩,a0i a0e,a0i a0e]
def S.a3x (x:(RB×(RB×Unit))):(Option (RB×Unit)):=if c1l B10 40000000 x.1=true/\c1l B10 40000000 x.2.1=true then some (rp B10 (a9p (rv B10 x.1) (rv B10 x.2.1)),())else none
theorem S.f0r (x r) (h:S.a3x x=some r):∃k,P.e1a k x=some r:=by
 obtain⟨x,y,u⟩:=x;unfold S.a3x at h;dsimp only at h;split at h
 case isFalse=>cases h
 rename_i hc;obtain⟨hx,hy⟩:=hc;cases h;rw[a5p]at hx hy;obtain⟨hx,lx⟩:=hx;obtain⟨hy,ly⟩:=hy;obtain⟨n1,p1,q1,rfl,x1,x2⟩:=a9q hx;obtain⟨n2,p2,q2,rfl,y1,y2⟩:=a9q hy;rw[b7t a0e]at lx ly ⊢;rw[b7t a0e];have hq1:q1≠0:=by have:0<q1:=lx.1;omega
 have hq2:q2≠0:=by have:0<q2:=ly.1;omega
 have m1:=a5a a0e p1 q2;have m2:=a5a a0e p2 q1;have m3:=a5a a0e q1 q2;have hq0:q1*q2≠0:=Nat.mul_ne_zero hq1 hq2;refine⟨0,?_⟩;unfold P.e1a;dsimp only;rw[g1k p1 q2 (by omega) (by omega),Option.bind_some,g1k p2 q1 (by omega) (by omega),Option.bind_some,g1k q1 q2 (by omega) (by omega),Option.bind_some];dsimp only;unfold a9p;dsimp only;have a1:=c5z a0e (p1*q2) (p2*q1);have a2:=b3w a0e (p1*q2) (p2*q1);have a3:=b3w a0e (p2*q1) (p1*q2)
 by_cases hn:n1=n2
 ·rw[if_pos (by simpa using hn),if_pos hn,sa_add _ _ (by omega) (by omega),Option.bind_some,g1l n1 _ _ (by omega) (by omega) hq0,Option.bind_some]
 ·rw[if_neg (by simpa using hn),if_neg hn,sa_cmp _ _ (by omega),Option.bind_some];dsimp only;have hlt:=c2g (a:=p1*q2) (b:=p2*q1)
  by_cases hle:p2*q1<=p1*q2
  ·have hge:b0u (p1*q2) (p2*q1)>=0:=by
    rcases Int.lt_or_le (b0u (p1*q2) (p2*q1)) 0 with g|g
    ·have:=hlt.1 g;omega
    ·exact g
   rw[if_pos (decide_eq_true hge),if_pos hle,sa_sub _ _ (by omega) hle,Option.bind_some,g1l n1 _ _ (by omega) (by omega) hq0,Option.bind_some]
  ·have hge:¬b0u (p1*q2) (p2*q1)>=0:=by
    have:=hlt.2 (Nat.lt_of_not_le hle);omega
   rw[if_neg (by simpa using hge),if_neg hle,sa_sub _ _ (by omega) (Nat.le_of_lt (Nat.lt_of_not_le hle)),Option.bind_some,g1l n2 _ _ (by omega) (by omega) hq0,Option.bind_some]
theorem rs_add {x y:Q3} {m n:Nat} (hx:low x) (bx:below m x) (hy:low y) (bY:below n y) (hm:m<=350000000) (hn:n<=350000000):S.a3x (rp B10 x,(rp B10 y,()))=some (rp B10 (a9p x y),()):=by
 unfold S.a3x;dsimp only;rw[if_pos ⟨a2t (by decide) hx bx (by omega),a2t (by decide) hy bY (by omega)⟩,a2p a0e,a2p a0e]
def P.b8p (k:Nat) (x:RB×Unit):Option (RB×Unit):=
 if !x.1.1 then some ((decide ((x.1.2.1.length:Int)>0),x.1.2.1,x.1.2.2),())else some ((false,x.1.2.1,x.1.2.2),())
def S.a7m (x:(RB×Unit)):(Option (RB×Unit)):=if rok B10 40000000 x.1=true then some (rp B10 (b7r (rv B10 x.1)),())else none
theorem S.c8z (x r) (h:S.a7m x=some r):∃k,P.b8p k x=some r:=by
 obtain⟨x,u⟩:=x;unfold S.a7m at h;dsimp only at h;split at h
 case isFalse=>cases h
 rename_i hc;cases h;refine⟨0,?_⟩;obtain⟨n,p,q,rfl,_,_⟩:=a9q hc;rw[b7t a0e];unfold P.b8p b7r rp;dsimp only;rw[d6w a0e];cases n
 ·rfl
 ·rfl
def P.d7t (k:Nat) (x:RB×RB×Unit):Option (RB×Unit):=
 (S.a7m ((x.2.1.1,x.2.1.2.1,x.2.1.2.2),())).bind fun y0=>(S.a3x ((x.1.1,x.1.2.1,x.1.2.2),(y0.1.1,y0.1.2.1,y0.1.2.2),())).bind fun y1=>some ((y1.1.1,y1.1.2.1,y1.1.2.2),())
def S.a4b (x:(RB×(RB×Unit))):(Option (RB×Unit)):=if c1l B10 40000000 x.1=true/\c1l B10 40000000 x.2.1=true then some (rp B10 (a9p (rv B10 x.1) (b7r (rv B10 x.2.1))),())else none
theorem S.e1b (x r) (h:S.a4b x=some r):∃k,P.d7t k x=some r:=by
 obtain⟨x,y,u⟩:=x;unfold S.a4b at h;dsimp only at h;split at h
 case isFalse=>cases h
 rename_i hc;obtain⟨hx,hy⟩:=hc;cases h;have hy':=a5p.1 hy;refine⟨0,?_⟩;have e1:S.a7m (y,())=some (rp B10 (b7r (rv B10 y)),()):=if_pos hy'.1;have hz:c1l B10 40000000 (rp B10 (b7r (rv B10 y)))=true:=by
  rw[a5p,a2p a0e];obtain⟨n2,p2,q2,rfl,y1,y2⟩:=a9q hy'.1;rw[b7t a0e]at hy' ⊢;exact⟨b7o.2 ⟨a0j a0e _,a0j a0e _,y1,y2⟩,b1s _ hy'.2⟩
 have e2:S.a3x (x,(rp B10 (b7r (rv B10 y)),()))=some (rp B10 (a9p (rv B10 x) (b7r (rv B10 y))),()):=by
  unfold S.a3x;dsimp only;rw[if_pos ⟨hx,hz⟩,a2p a0e]
 show Option.bind (S.a7m (y,())) (fun y0=>Option.bind (S.a3x (x,(y0.1,()))) (fun y1=>some (y1.1,())))=_;rw[e1,Option.bind_some,e2,Option.bind_some]
theorem rs_sub {x y:Q3} {m n:Nat} (hx:low x) (bx:below m x) (hy:low y) (bY:below n y) (hm:m<=350000000) (hn:n<=350000000):S.a4b (rp B10 x,(rp B10 y,()))=some (rp B10 (a9p x (b7r y)),()):=by
 unfold S.a4b;dsimp only;rw[if_pos ⟨a2t (by decide) hx bx (by omega),a2t (by decide) hy bY (by omega)⟩,a2p a0e,a2p a0e]
def P.d3y (k:Nat) (x:RB×RB×Unit):Option (RB×Unit):=
 (S.a1d (x.1.2.1,x.2.1.2.2,())).bind fun y0=>(S.a1d (x.1.2.2,x.2.1.2.1,())).bind fun y1=>(S.a6c (! (x.1.1==x.2.1.1),y0.1,y1.1,())).bind fun y2=>some ((y2.1.1,y2.1.2.1,y2.1.2.2),())
def S.a6d (x:(RB×(RB×Unit))):(Option (RB×Unit)):=if c1l B10 40000000 x.1=true/\c1l B10 40000000 x.2.1=true/\(rv B10 x.2.1).2.1≠0 then some (rp B10 (a2s (rv B10 x.1) (rv B10 x.2.1)),())else none
theorem S.e6v (x r) (h:S.a6d x=some r):∃k,P.d3y k x=some r:=by
 obtain⟨x,y,u⟩:=x;unfold S.a6d at h;dsimp only at h;split at h
 case isFalse=>cases h
 rename_i hc;obtain⟨hx,hy,h0⟩:=hc;cases h;rw[a5p]at hx hy;obtain⟨hx,lx⟩:=hx;obtain⟨hy,ly⟩:=hy;obtain⟨n1,p1,q1,rfl,x1,x2⟩:=a9q hx;obtain⟨n2,p2,q2,rfl,y1,y2⟩:=a9q hy;rw[b7t a0e]at lx ly h0 ⊢;rw[b7t a0e];have hq1:0<q1:=lx.1;have hq2:0<p2:=Nat.pos_of_ne_zero h0;have m1:=a5a a0e p1 q2;have m2:=a5a a0e q1 p2;have mul:∀p q:Nat,(nd B10 p).length<=100000000->(nd B10 q).length<=100000000->S.a1d (nd B10 p,(nd B10 q,()))=some (nd B10 (p*q),()):=by
  intro p q hp hq;unfold S.a1d;dsimp only;rw[if_pos ⟨a4f a0e _,a4f a0e _,by omega,by omega⟩,a0i a0e,a0i a0e]
 refine⟨0,?_⟩;unfold P.d3y a2s;dsimp only;rw[mul p1 q2 (by omega) (by omega),Option.bind_some,mul q1 p2 (by omega) (by omega),Option.bind_some];unfold S.a6c;dsimp only;rw[if_pos ⟨a0j a0e _,a0j a0e _,f3p a0e (Nat.ne_of_gt (Nat.mul_pos hq1 hq2)),by omega,by omega⟩,Option.bind_some,a0i a0e,a0i a0e];rfl
theorem rs_over {x y:Q3} {m n:Nat} (hx:low x) (bx:below m x) (hy:low y) (bY:below n y) (h0:y.2.1≠0) (hm:m<=350000000) (hn:n<=350000000):S.a6d (rp B10 x,(rp B10 y,()))=some (rp B10 (a2s x y),()):=by
 unfold S.a6d;dsimp only;rw[if_pos ⟨a2t (by decide) hx bx (by omega),a2t (by decide) hy bY (by omega),by rw[a2p a0e];exact h0⟩,a2p a0e,a2p a0e]
abbrev P.a8k (x2:Int×Int×List RB×List RB×RB×RB×Unit) (g3:Int×Int×List RB×List RB×RB×RB×Unit->Option (RB×Unit)):Option (RB×Unit):=
 (fun(a b:Int) (c d:List RB) (e f:RB)=>if decide (a<b)then if decide (0<=a)then if decide (a<(c.length:Int))then if decide (0<=a)then if decide (a<(d.length:Int))then(S.a4b (((c.getD a.toNat (false,[],[])).1,(c.getD a.toNat (false,[],[])).2.1,(c.getD a.toNat (false,[],[])).2.2),((d.getD a.toNat (false,[],[])).1,(d.getD a.toNat (false,[],[])).2.1,(d.getD a.toNat (false,[],[])).2.2),())).bind fun y4=>(S.a3x ((e.1,e.2.1,e.2.2),(false,y4.1.2.1,y4.1.2.2),())).bind fun y5=>g3 (wrap .i64 (a+1),b,c,d,(y5.1.1,y5.1.2.1,y5.1.2.2),(f.1,f.2.1,f.2.2),())else none else none else none else none else(S.b7i (2,())).bind fun y6=>(S.a6d ((e.1,e.2.1,e.2.2),(y6.1.1,y6.1.2.1,y6.1.2.2),())).bind fun y7=>some ((y7.1.1,y7.1.2.1,y7.1.2.2),())) x2.1 x2.2.1 x2.2.2.1 x2.2.2.2.1 x2.2.2.2.2.1 x2.2.2.2.2.2.1
def P.b8q (k:Nat) (x:List RB×List RB×Unit):Option (RB×Unit):=
 (S.a7u ()).bind fun y0=>loopP P.a8k k (0,(x.1.length:Int),x.1,x.2.1,(y0.1.1,y0.1.2.1,y0.1.2.2),(false,[],[]),())
open Classical in
def S.a7n (x:((List RB)×((List RB)×Unit))):(Option (RB×Unit)):=if goodD B10 x.1 x.2.1 then some (rp B10 (c4b (x.1.map (rv B10)) (x.2.1.map (rv B10))),())else none
theorem S.c9a (x r) (h:S.a7n x=some r):∃k,P.b8q k x=some r:=by
 obtain⟨xs,ys,u⟩:=x;unfold S.a7n at h;dsimp only at h;split at h
 case isFalse=>cases h
 rename_i hc;obtain⟨as,bs',rfl,rfl,hl,hm,ha,hb,hd,hs⟩:=hc;cases h;refine⟨as.length+1,?_⟩;unfold P.b8q;have hz:S.a7u ()=some (rp B10 a2c,()):=by rfl
 have h2:S.b7i (2,())=some (rp B10 (b8w 2),()):=by rfl
 dsimp only;rw[hz,Option.bind_some,a5b a0e,a5b a0e,List.length_map];have hdl:=d0r hl;have key:=a0g (k:=as.length+1) (b:=P.a8k) (n:=as.length) (st:=fun i=>((i:Int),(as.length:Int),as.map (rp B10),bs'.map (rp B10),rp B10 (a5y ((dfs as bs').take i)),(false,(([]:List Int),([]:List Int))),())) (F:=fun i=>some (rp B10 (c4b as bs'),())) (fun i g hi hg'=>by
  unfold P.a8k;dsimp only at hg' ⊢;have e1:(i:Int)<(as.length:Int):=by omega
  have e2:(0:Int)<=(i:Int):=by omega
  have e3:(i:Int)<((as.map (rp B10)).length:Int):=by rw[List.length_map];omega
  have e4:(i:Int)<((bs'.map (rp B10)).length:Int):=by rw[List.length_map];omega
  have hi':i<bs'.length:=by omega
  have hid:i<(dfs as bs').length:=by omega
  rw[if_pos (decide_eq_true e1),if_pos (decide_eq_true e2),if_pos (decide_eq_true e3),if_pos (decide_eq_true e2),if_pos (decide_eq_true e4),a0m (as.map (rp B10)) i _ (by rw[List.length_map];exact hi),List.getElem_map,a0m (bs'.map (rp B10)) i _ (by rw[List.length_map];exact hi'),List.getElem_map];have la:=ha _ (List.getElem_mem hi);have lb:=hb _ (List.getElem_mem hi');have es:S.a4b (rp B10 as[i],(rp B10 bs'[i],()))=some (rp B10 (a9p as[i] (b7r bs'[i])),()):=by
   unfold S.a4b;dsimp only;rw[if_pos ⟨b6e (by decide) la,b6e (by decide) lb⟩,a2p a0e,a2p a0e]
  have ea:S.a3x (rp B10 (a5y ((dfs as bs').take i)),(rp B10 (f5o (a9p as[i] (b7r bs'[i]))),()))=some (rp B10 (a5y ((dfs as bs').take (i+1))),()):=by
   have hge:=b6e (B:=B10) (by decide) (hd _ (List.getElem_mem hid));rw[<-b9v hid];rw[e8n hl hi]at hge ⊢;unfold S.a3x;dsimp only;rw[if_pos ⟨b6e (by decide) (hs i),hge⟩,a2p a0e,a2p a0e]
  show Option.bind (S.a4b (rp B10 as[i],(rp B10 bs'[i],()))) _=_;rw[es,Option.bind_some];show Option.bind (S.a3x (rp B10 (a5y ((dfs as bs').take i)),(rp B10 (f5o (a9p as[i] (b7r bs'[i]))),()))) _=_;rw[ea,Option.bind_some,wr (by omega) (by omega)];exact hg') (fun g=>by
  unfold P.a8k;dsimp only;have eo:S.a6d (rp B10 (a5y (dfs as bs')),(rp B10 (b8w 2),()))=some (rp B10 (c4b as bs'),()):=by
   unfold S.a6d;dsimp only;rw[if_pos ⟨b6e (by decide) (by have:=hs (dfs as bs').length;rwa [List.take_length]at this),f7o (by decide) (d6v 2) (b9w (n:=1) (by decide) (by decide)) (by decide),by rw[a2p a0e];decide⟩,a2p a0e,a2p a0e];rfl
  rw[if_neg (by simp),h2,Option.bind_some,<-hdl,List.take_length];show Option.bind (S.a6d (rp B10 (a5y (dfs as bs')),(rp B10 (b8w 2),()))) _=_;rw[eo,Option.bind_some]) (by omega)
 exact key
def P.e1c (k:Nat) (x:Int×Int×Int×Unit):Option (Bool×Unit):=
 if decide (x.1>=x.2.1)then some (decide (x.1<=x.2.2.1),())else some (false,())
def S.e1d (x:(Int×(Int×(Int×Unit)))):(Option (Bool×Unit)):=P.e1c 0 x
theorem S.f5l (x r) (h:S.e1d x=some r):∃k,P.e1c k x=some r:=⟨0,h⟩
abbrev P.b8r (x1:Int×ByteArray×Int×List ByteArray×Int×Unit) (g2:Int×ByteArray×Int×List ByteArray×Int×Unit->Option (List ByteArray×Unit)):Option (List ByteArray×Unit):=
 (fun(a c e:Int) (b:ByteArray) (d:List ByteArray)=>if decide (a<=(b.size:Int))then if a==(b.size:Int)then if decide (0<=a)then if decide (a<=(b.size:Int))then if decide (0<=e)then if decide (e<=a)then if decide (((d.length+(List.length [ByteArray.extract b e.toNat a.toNat]))*16)<=140737488355328)then g2 (wrap .i64 (a+1),b,c,d++[ByteArray.extract b e.toNat a.toNat],wrap .i64 (a+1),())else none else none else none else none else none else if decide (0<=a)then if decide (a<(b.size:Int))then if(a2i b a)==c then if decide (0<=a)then if decide (a<=(b.size:Int))then if decide (0<=e)then if decide (e<=a)then if decide (((d.length+(List.length [ByteArray.extract b e.toNat a.toNat]))*16)<=140737488355328)then g2 (wrap .i64 (a+1),b,c,d++[ByteArray.extract b e.toNat a.toNat],wrap .i64 (a+1),())else none else none else none else none else none else g2 (wrap .i64 (a+1),b,c,d,e,())else none else none else some (d,())) x1.1 x1.2.2.1 x1.2.2.2.2.1 x1.2.1 x1.2.2.2.1
def P.e1e (k:Nat) (x:ByteArray×Int×Unit):Option (List ByteArray×Unit):=
 loopP P.b8r k (0,x.1,x.2.1,[],0,())
def b0c (s:ByteArray) (c:Int):Nat->List ByteArray×Nat
 |0=>([],0)
 |i+1=>if i=s.size\/a2i s (i:Int)=c then((b0c s c i).1++[s.extract (b0c s c i).2 i],i+1)else b0c s c i
theorem f2x (s:ByteArray) (c:Int) (i:Nat):(b0c s c i).1.length<=i/\(b0c s c i).2<=i:=by
 induction i with
 |zero=>exact⟨Nat.le_refl _,Nat.le_refl _⟩
 |succ i ih=>
  unfold b0c;split
  ·refine⟨?_,Nat.le_refl _⟩;simp;omega
  ·omega
def S.a8l (x:(ByteArray×(Int×Unit))):(Option ((List ByteArray)×Unit)):=if x.1.size<=1000000 then some ((b0c x.1 x.2.1 (x.1.size+1)).1,())else none
theorem S.f0s (x r) (h:S.a8l x=some r):∃k,P.e1e k x=some r:=by
 obtain⟨s,c,u⟩:=x;unfold S.a8l at h;dsimp only at h;split at h
 case isFalse=>cases h
 rename_i hs;cases h;refine⟨s.size+2,?_⟩;unfold P.e1e;dsimp only;have key:=a0g (k:=s.size+2) (b:=P.b8r) (n:=s.size+1) (st:=fun i=>((i:Int),s,c,(b0c s c i).1,((b0c s c i).2:Int),())) (F:=fun i=>some ((b0c s c (s.size+1)).1,())) (fun i g hi hg=>by
  unfold P.b8r;dsimp only at hg ⊢;obtain⟨q1,q2⟩:=f2x s c i;have e1:(i:Int)<=(s.size:Int):=by omega
  have e2:(0:Int)<=(i:Int):=by omega
  have e3:(0:Int)<=((b0c s c i).2:Int):=by omega
  have e4:((b0c s c i).2:Int)<=(i:Int):=by omega
  have e5:((b0c s c i).1.length+([s.extract (b0c s c i).2 i]:List ByteArray).length)*16<=140737488355328:=by simp;omega
  rw[b0c]at hg
  by_cases hq:i=s.size
  ·rw[if_pos (.inl hq)]at hg;rw[<-hg];have e6:((i:Int)==(s.size:Int))=true:=by simp [hq]
   simp only[e1,e2,e3,e4,e6,decide_true,if_true,Int.toNat_natCast];rw[if_pos (decide_eq_true e5),wr (by omega) (by omega)];rfl
  ·have e6:¬((i:Int)==(s.size:Int))=true:=by simp;omega
   have e7:(i:Int)<(s.size:Int):=by omega
   rw[if_pos (decide_eq_true e1),if_neg e6,if_pos (decide_eq_true e2),if_pos (decide_eq_true e7)]
   by_cases hb:a2i s (i:Int)=c
   ·rw[if_pos (.inr hb)]at hg;rw[<-hg,if_pos (by simp [hb])];simp only[e1,e2,e3,e4,decide_true,if_true,Int.toNat_natCast];rw[if_pos (decide_eq_true e5),wr (by omega) (by omega)];rfl
   ·rw[if_neg (fun z=>z.elim hq hb)]at hg;rw[<-hg,if_neg (by simp [hb]),wr (by omega) (by omega)];rfl) (fun g=>by
  unfold P.b8r;dsimp only;rw[if_neg (by simp;omega)]) (by omega)
 exact key
theorem c7w (s:ByteArray) (c:UInt8):(b0c s (c.toNat:Int) (s.size+1)).1.map (·.data.toList)=a5j c s.data.toList:=by
 have hsz:s.size=s.data.toList.length:=by rw[Array.length_toList];rfl
 have hex:∀a b,(s.extract a b).data.toList=(s.data.toList.take b).drop a:=by
  intro a b;simp [ByteArray.data_extract,Array.toList_extract,List.extract_eq_take_drop,List.drop_take]
 have key:∀i,i<=s.size->a5j c s.data.toList=(b0c s (c.toNat:Int) i).1.map (·.data.toList)++f7j ((s.data.toList.take i).drop (b0c s (c.toNat:Int) i).2) (a5j c (s.data.toList.drop i)):=by
  intro i
  induction i with
  |zero=>
   intro _;simp [b0c,f1o (b9r c _)]
  |succ i ih=>
   intro hi;rw[ih (by omega)];obtain⟨q1,q2⟩:=f2x s (c.toNat:Int) i;have hi':i<s.data.toList.length:=by omega
   have hb:a2i s (i:Int)=(s.data.toList[i].toNat:Int):=by
    unfold a2i;rw[a0m _ i _ hi']
   rw[List.drop_eq_getElem_cons hi',b0c,a5j]
   by_cases hc:s.data.toList[i]=c
   ·rw[if_pos hc,if_pos (.inr (by rw[hb,hc]))];simp only[List.map_append,List.map_cons,List.map_nil,hex,List.append_assoc];congr 1;rw[show List.drop (i+1) (List.take (i+1) s.data.toList)=[]from List.drop_eq_nil_of_le (by simp;omega),f1o (b9r c _)];simp [f7j]
   ·rw[if_neg hc,if_neg (by
     rw[hb]
     rintro (h|h)
     ·omega
     ·exact hc (UInt8.toNat_inj.1 (by omega)))]
    rw[f7k,<-List.take_append_getElem hi',List.drop_append_of_le_length (by simp;omega)]
 have h:=key s.size (Nat.le_refl _);rw[h,b0c,if_pos (.inl rfl)];simp only[List.map_append,List.map_cons,List.map_nil,hex];congr 1;rw[show List.drop s.size s.data.toList=[]from List.drop_eq_nil_of_le (by omega)];simp [a5j,f7j]
abbrev s_l01NatRead.A:=Int×ByteArray×List Int×Unit
abbrev P.a4i (g2:s_l01NatRead.A->Option (List Int×Unit)) (x4:Int×Int×s_l01NatRead.A) (g5:Int×Int×s_l01NatRead.A->Option (List Int×Unit)):Option (List Int×Unit):=
 (fun(a b c:Int) (d:ByteArray) (e:List Int)=>if decide (a<b)then if decide (0<=a)then if decide (a<(d.size:Int))then g5 (wrap .i64 (a+1),b,wrap .i64 ((wrap .i64 (10*c))+(wrap .i64 (wrap .u8 ((a2i d a) - 48)))),d,e,())else none else none else if decide (((e.length+(List.length [c]))*8)<=140737488355328)then g2 (wrap .i64 (b - 9),d,e++[c],())else none) x4.1 x4.2.1 x4.2.2.1 x4.2.2.2.1 x4.2.2.2.2.1
abbrev P.a7c (k:Nat) (x1:s_l01NatRead.A) (g2:s_l01NatRead.A->Option (List Int×Unit)):Option (List Int×Unit):=
 if decide (x1.1>0)then if decide (x1.1>9)then loopP (P.a4i g2) k (wrap .i64 (x1.1 - 9),x1.1,0,x1.2.1,x1.2.2.1,())else loopP (P.a4i g2) k (0,x1.1,0,x1.2.1,x1.2.2.1,())else(S.a4e (x1.2.2.1,())).bind fun y9=>some (y9.1,())
def P.c0m (k:Nat) (x:ByteArray×Unit):Option (List Int×Unit):=
 loopP (P.a7c k) k ((x.1.size:Int),x.1,[],())
theorem sr_inner (g) (s:ByteArray) (l:List UInt8) (hL:s.data.toList=l) (hd:b9q l=true) (a n:Nat) (hn:n<=9) (han:a+n<=l.length) (hl:l.length<=1000000000) (out:List Int) (ho:out.length<=1000000000) (k:Nat) (hk:n<k):
  loopP (P.a4i g) k ((a:Int),(((a+n:Nat):Int),((0:Int),(s,(out,())))))=g (((a+n:Nat):Int) - 9,(s,(out++[((dv ((l.drop a).take n):Nat):Int)],()))):=by
 have hs:s.size=l.length:=by rw[<-hL,Array.length_toList];rfl
 have key:=a0g (k:=k) (b:=P.a4i g) (n:=n) (st:=fun i=>(((a+i:Nat):Int),((a+n:Nat):Int),((dv ((l.drop a).take i):Nat):Int),s,out,())) (F:=fun i=>g (((a+n:Nat):Int) - 9,(s,(out++[((dv ((l.drop a).take n):Nat):Int)],())))) (fun i g' hi hg'=>by
  unfold P.a4i;dsimp only at hg' ⊢;refine Eq.trans ?_ hg';have hi2:i<(l.drop a).length:=by rw[List.length_drop];omega
  have e1:((a+i:Nat):Int)<((a+n:Nat):Int):=by omega
  have e2:(0:Int)<=((a+i:Nat):Int):=by omega
  have e3:((a+i:Nat):Int)<(l.length:Int):=by omega
  have hb:a2i s ((a+i:Nat):Int)=(((l.drop a)[i]).toNat:Int):=by
   unfold a2i;rw[hL,a0m l (a+i) _ (by omega),List.getElem_drop]
  have hc:=f1n (c3u hd a) hi2;have hv:=f7f (d0l (c3u hd a) i);have hp:10^((l.drop a).take i).length<=10^9:=Nat.pow_le_pow_right (by decide) (by simp;omega);have hp9:(10:Nat)^9=1000000000:=by decide
  rw[hs,hb,wr (x:=((a+i:Nat):Int)+1) (by omega) (by omega)];simp only[e1,e2,e3,decide_true,if_true];rw[<-List.take_append_getElem hi2,dv_snoc];generalize (l.drop a)[i].toNat=c at*;generalize dv ((l.drop a).take i)=v at*;have h8:IntKind.wrap .u8 ((c:Int) - 48)=(c:Int) - 48:=IntWalk.u8_in _ (by omega);rw[h8,wr (x:=(c:Int) - 48) (by omega) (by omega),wr (x:=10*(v:Int)) (by omega) (by omega),wr (x:=10*(v:Int)+((c:Int) - 48)) (by omega) (by omega),show 10*(v:Int)+((c:Int) - 48)=((10*v+(c - 48):Nat):Int) by omega];rfl) (fun g'=>by
  unfold P.a4i;dsimp only;have hcap:(out.length+ [((dv ((l.drop a).take n):Nat):Int)].length)*8<=140737488355328:=by
   rw[List.length_singleton];omega
  rw[if_neg (by simp),if_pos (decide_eq_true hcap),wr (by omega) (by omega)]) hk
 exact key
theorem sr_outer (s:ByteArray) (l:List UInt8) (hL:s.data.toList=l) (hd:b9q l=true) (hl:l.length<=1000000000) (K:Nat) (hK:9<K) (n:Nat):∀(to:Int) (out:List Int) (k:Nat),to<=(n:Int)-> -9<=to->to<=(l.length:Int)->n<k->dig B10 out=true->out.length+n<=l.length->a0c B10 out+B10^out.length*dv (l.take to.toNat)=dv l->
  loopP (P.a7c K) k (to,(s,(out,())))=some (nd B10 (dv l),()):=by
 induction n using Nat.strongRecOn with
 |ind n ih=>
  intro to out k hto hlo htl hk hdo hol hv;obtain⟨k,rfl⟩:∃j,k=j+1:=⟨k - 1,by omega⟩
  rw[a0k];unfold P.a7c;dsimp only
  by_cases h0:to>0
  ·rw[if_pos (decide_eq_true h0)];obtain⟨m,rfl⟩:∃m:Nat,to=(m:Int):=⟨to.toNat,by omega⟩
   rw[Int.toNat_natCast]at hv;have hB9:B10=10^9:=by decide
   have hstep:∀a c:Nat,c<=9->a+c=m->(c=9\/a=0)->loopP (P.a4i (loopP (P.a7c K) k)) K ((a:Int),((m:Int),((0:Int),(s,(out,())))))=some (nd B10 (dv l),()):=by
    intro a c hc9 hm hor;have hin:=sr_inner (loopP (P.a7c K) k) s l hL hd a c hc9 (by omega) hl out (by omega) K (by omega);rw[hm]at hin;rw[hin];have htk:l.take m=l.take a++(l.drop a).take c:=by rw[<-hm,List.take_add]
    have hpc:((l.drop a).take c).length=c:=by simp;omega
    have hpd:=f7f (d0l (c3u hd a) c);rw[hpc]at hpd;have hp9:10^c<=10^9:=Nat.pow_le_pow_right (by decide) hc9;have hpB:dv ((l.drop a).take c)<B10:=by rw[hB9];omega
    have hta:l.take ((m:Int) - 9).toNat=l.take a:=by
     rcases hor with g|g
     ·rw[show((m:Int) - 9).toNat=a by omega]
     ·subst g;rw[show((m:Int) - 9).toNat=0 by omega]
    refine ih (n - 1) (by omega) _ _ k (by omega) (by omega) (by omega) (by omega) ?_ (by rw[List.length_append,List.length_singleton];omega) ?_
    ·rw[a1j,hdo,Bool.true_and,a2m];exact⟨⟨by omega,by omega⟩,rfl⟩
    ·rw[hta,a0w,List.length_append,List.length_singleton,Nat.pow_succ,<-hv,htk,c3t,hpc];have e1:a0c B10 [((dv ((l.drop a).take c):Nat):Int)]=dv ((l.drop a).take c):=by rw[a0c,Int.toNat_natCast];rfl
     rw[e1];rcases hor with g|g
     ·rw[g,<-hB9,Nat.mul_assoc,Nat.mul_add,Nat.mul_comm B10];omega
     ·subst g;have:dv (l.take 0)=0:=by rw[List.take_zero];rfl
      rw[this,Nat.mul_zero,Nat.zero_mul,Nat.zero_add];omega
   by_cases h9:(m:Int)>9
   ·rw[if_pos (decide_eq_true h9),wr (by omega) (by omega),show(m:Int) - 9=((m - 9:Nat):Int) by omega];exact hstep (m - 9) 9 (Nat.le_refl _) (by omega) (.inl rfl)
   ·rw[if_neg (by simpa using h9)];exact hstep 0 m (by omega) (by omega) (.inr rfl)
  ·rw[if_neg (by simpa using h0)];have h00:to.toNat=0:=by omega
   rw[h00,List.take_zero,show dv []=0 from rfl,Nat.mul_zero,Nat.add_zero]at hv;unfold S.a4e;dsimp only;rw[if_pos ⟨hdo,by omega⟩,Option.bind_some,hv]
def S.a0s (x:(ByteArray×Unit)):(Option ((List Int)×Unit)):=if b9q x.1.data.toList=true/\x.1.data.toList.length<=1000000000 then some (nd B10 (dv x.1.data.toList),())else none
theorem S.d3z (x r) (h:S.a0s x=some r):∃k,P.c0m k x=some r:=by
 obtain⟨s,u⟩:=x;unfold S.a0s at h;dsimp only at h;split at h
 case isFalse=>cases h
 rename_i hc;obtain⟨hd,hl⟩:=hc;cases h;have hs:s.size=s.data.toList.length:=by rw[Array.length_toList];rfl
 refine⟨s.data.toList.length+10,?_⟩;unfold P.c0m;dsimp only;rw[hs];exact sr_outer s _ rfl hd hl _ (by omega) s.data.toList.length _ [] _ (Int.le_refl _) (by omega) (Int.le_refl _) (by omega) rfl (by simp) (by rw[Int.toNat_natCast,List.take_length];simp [a0c])
abbrev P.b1u (x1:Int×ByteArray×Unit) (g2:Int×ByteArray×Unit->Option (Bool×Unit)):Option (Bool×Unit):=
 (fun(a:Int) (b:ByteArray)=>if decide (a<(b.size:Int))then if decide (0<=a)then if decide (a<(b.size:Int))then if decide ((a2i b a)<48)then some (false,())else if decide (0<=a)then if decide (a<(b.size:Int))then if decide ((a2i b a)>57)then some (false,())else g2 (wrap .i64 (a+1),b,())else none else none else none else none else if decide ((b.size:Int)>=1)then if decide ((b.size:Int)<=200)then if(b.size:Int)==1 then some (true,())else if decide (0<(b.size:Int))then some ((a2i b 0) != 48,())else none else some (false,())else some (false,())) x1.1 x1.2.1
def P.c3e (k:Nat) (x:ByteArray×Unit):Option (Bool×Unit):=
 loopP P.b1u k (0,x.1,())
def S.a0x (x:(ByteArray×Unit)):(Option (Bool×Unit)):=if x.1.size<=281474976710656 then some (okN x.1.data.toList,())else none
theorem S.d6f (x r) (h:S.a0x x=some r):∃k,P.c3e k x=some r:=by
 obtain⟨s,u⟩:=x;unfold S.a0x at h;dsimp only at h;split at h
 case isFalse=>cases h
 rename_i hsz;cases h;have hs:s.size=s.data.toList.length:=by rw[Array.length_toList];rfl
 rw[hs]at hsz;refine⟨s.data.toList.length+1,?_⟩;unfold P.c3e;dsimp only;generalize hL:s.data.toList=l at*;have key:=a0g (k:=l.length+1) (b:=P.b1u) (n:=l.length) (st:=fun i=>((i:Int),s,())) (F:=fun i=>some (b9q (l.drop i)&&okR l,())) (fun i g hi hg=>by
  unfold P.b1u;dsimp only at hg ⊢;have e1:(i:Int)<(l.length:Int):=by omega
  have e2:(0:Int)<=(i:Int):=by omega
  have hb:a2i s (i:Int)=(l[i].toNat:Int):=by
   unfold a2i;rw[hL,a0m l i _ hi]
  have ha:b9q (l.drop i)=(isD l[i]&&b9q (l.drop (i+1))):=by
   rw[List.drop_eq_getElem_cons hi];rfl
  rw[hs,hb,wr (x:=(i:Int)+1) (by omega) (by omega),ha];simp only[e1,e2,decide_true,if_true];unfold isD
  by_cases c1:48<=l[i].toNat
  ·rw[if_neg (by simp;omega)]
   by_cases c2:l[i].toNat<=57
   ·rw[if_neg (by simp;omega),decide_eq_true ⟨c1,c2⟩,Bool.true_and];exact hg
   ·rw[if_pos (decide_eq_true (by omega)),decide_eq_false (fun q=>c2 q.2)];rfl
  ·rw[if_pos (decide_eq_true (by omega)),decide_eq_false (fun q=>c1 q.1)];rfl) (fun g=>by
  unfold P.b1u;dsimp only;rw[hs,if_neg (by simp),List.drop_length,show b9q []=true from rfl,Bool.true_and];unfold okR
  by_cases h1:l=[]
  ·subst h1;rfl
  ·have hpos:0<l.length:=List.length_pos_iff.2 h1;have d1:(l.length:Int)>=1:=by omega
   rw[if_pos (decide_eq_true d1),decide_eq_true h1,Bool.true_and]
   by_cases h2:l.length<=200
   ·have d2:(l.length:Int)<=200:=by omega
    rw[if_pos (decide_eq_true d2),decide_eq_true h2,Bool.true_and]
    by_cases h3:l.length=1
    ·have d3:(((l.length:Nat):Int)==(1:Int))=true:=by simp [h3]
     rw[if_pos d3,decide_eq_true h3,Bool.true_or]
    ·have d3:¬(((l.length:Nat):Int)==(1:Int))=true:=by simp;omega
     have d4:(0:Int)<(l.length:Int):=by omega
     rw[if_neg d3,if_pos (decide_eq_true d4),decide_eq_false h3,Bool.false_or];have hb:a2i s 0=(l[0].toNat:Int):=by
      unfold a2i;rw[hL];simp [hpos]
     have hh:l.head? =some l[0]:=by
      cases l with
      |nil=>simp at h1
      |cons c r=>rfl
     rw[hb,hh]
     by_cases c1:l[0]=48
     ·rw[c1];rfl
     ·have:¬((l[0].toNat:Int)=48):=by
       intro q;apply c1;apply UInt8.toNat_inj.1;show _=48;omega
      rw[decide_eq_true (by simpa using c1)];simpa [bne]using this
   ·have d2:¬(l.length:Int)<=200:=by omega
    rw[if_neg (by simpa using d2),decide_eq_false h2,Bool.false_and]) (by omega)
 rw[List.drop_zero]at key;exact key
def P.c7f (k:Nat) (x:ByteArray×Unit):Option ((RB×Bool)×Unit):=
 if decide ((x.1.size:Int)>0)then if decide (0<(x.1.size:Int))then if(a2i x.1 0)==45 then if decide (0<=(x.1.size:Int))then if decide ((x.1.size:Int)<=(x.1.size:Int))then if decide (1<=(x.1.size:Int))then(S.a8l (ByteArray.extract x.1 1 (Int.toNat (x.1.size:Int)),47,())).bind fun y0=>if decide ((y0.1.length:Int)>2)then some (((false,[],[]),false),())else if decide (0<(y0.1.length:Int))then(S.a0x (y0.1.getD 0 (bs []),())).bind fun y1=>if !y1.1 then some (((false,[],[]),false),())else if decide (0<(y0.1.length:Int))then(S.a0s (y0.1.getD 0 (bs []),())).bind fun y2=>if(a2i x.1 0)==45 then if(y2.1.length:Int)==0 then some (((false,[],[]),false),())else if(y0.1.length:Int)==1 then some ((((a2i x.1 0)==45,y2.1,[1]),true),())else if decide (1<(y0.1.length:Int))then(S.a0x (y0.1.getD 1 (bs []),())).bind fun y3=>if !y3.1 then some (((false,[],[]),false),())else if decide (1<(y0.1.length:Int))then(S.a0s (y0.1.getD 1 (bs []),())).bind fun y4=>(S.a0n (y4.1,[1],())).bind fun y5=>if decide (y5.1<=0)then some (((false,[],[]),false),())else(S.a3l (y2.1,y4.1,())).bind fun y6=>(S.a0n (y6.1,[1],())).bind fun y7=>if y7.1 != 0 then some (((false,[],[]),false),())else some ((((a2i x.1 0)==45,y2.1,y4.1),true),())else none else none else if(y0.1.length:Int)==1 then some ((((a2i x.1 0)==45,y2.1,[1]),true),())else if decide (1<(y0.1.length:Int))then(S.a0x (y0.1.getD 1 (bs []),())).bind fun y8=>if !y8.1 then some (((false,[],[]),false),())else if decide (1<(y0.1.length:Int))then(S.a0s (y0.1.getD 1 (bs []),())).bind fun y9=>(S.a0n (y9.1,[1],())).bind fun y10=>if decide (y10.1<=0)then some (((false,[],[]),false),())else(S.a3l (y2.1,y9.1,())).bind fun y11=>(S.a0n (y11.1,[1],())).bind fun y12=>if y12.1 != 0 then some (((false,[],[]),false),())else some ((((a2i x.1 0)==45,y2.1,y9.1),true),())else none else none else none else none else none else none else none else(S.a8l (x.1,47,())).bind fun y13=>if decide ((y13.1.length:Int)>2)then some (((false,[],[]),false),())else if decide (0<(y13.1.length:Int))then(S.a0x (y13.1.getD 0 (bs []),())).bind fun y14=>if !y14.1 then some (((false,[],[]),false),())else if decide (0<(y13.1.length:Int))then(S.a0s (y13.1.getD 0 (bs []),())).bind fun y15=>if(a2i x.1 0)==45 then if(y15.1.length:Int)==0 then some (((false,[],[]),false),())else if(y13.1.length:Int)==1 then some ((((a2i x.1 0)==45,y15.1,[1]),true),())else if decide (1<(y13.1.length:Int))then(S.a0x (y13.1.getD 1 (bs []),())).bind fun y16=>if !y16.1 then some (((false,[],[]),false),())else if decide (1<(y13.1.length:Int))then(S.a0s (y13.1.getD 1 (bs []),())).bind fun y17=>(S.a0n (y17.1,[1],())).bind fun y18=>if decide (y18.1<=0)then some (((false,[],[]),false),())else(S.a3l (y15.1,y17.1,())).bind fun y19=>(S.a0n (y19.1,[1],())).bind fun y20=>if y20.1 != 0 then some (((false,[],[]),false),())else some ((((a2i x.1 0)==45,y15.1,y17.1),true),())else none else none else if(y13.1.length:Int)==1 then some ((((a2i x.1 0)==45,y15.1,[1]),true),())else if decide (1<(y13.1.length:Int))then(S.a0x (y13.1.getD 1 (bs []),())).bind fun y21=>if !y21.1 then some (((false,[],[]),false),())else if decide (1<(y13.1.length:Int))then(S.a0s (y13.1.getD 1 (bs []),())).bind fun y22=>(S.a0n (y22.1,[1],())).bind fun y23=>if decide (y23.1<=0)then some (((false,[],[]),false),())else(S.a3l (y15.1,y22.1,())).bind fun y24=>(S.a0n (y24.1,[1],())).bind fun y25=>if y25.1 != 0 then some (((false,[],[]),false),())else some ((((a2i x.1 0)==45,y15.1,y22.1),true),())else none else none else none else none else none else(S.a8l (x.1,47,())).bind fun y26=>if decide ((y26.1.length:Int)>2)then some (((false,[],[]),false),())else if decide (0<(y26.1.length:Int))then(S.a0x (y26.1.getD 0 (bs []),())).bind fun y27=>if !y27.1 then some (((false,[],[]),false),())else if decide (0<(y26.1.length:Int))then(S.a0s (y26.1.getD 0 (bs []),())).bind fun y28=>if(y26.1.length:Int)==1 then some (((false,y28.1,[1]),true),())else if decide (1<(y26.1.length:Int))then(S.a0x (y26.1.getD 1 (bs []),())).bind fun y29=>if !y29.1 then some (((false,[],[]),false),())else if decide (1<(y26.1.length:Int))then(S.a0s (y26.1.getD 1 (bs []),())).bind fun y30=>(S.a0n (y30.1,[1],())).bind fun y31=>if decide (y31.1<=0)then some (((false,[],[]),false),())else(S.a3l (y28.1,y30.1,())).bind fun y32=>(S.a0n (y32.1,[1],())).bind fun y33=>if y33.1 != 0 then some (((false,[],[]),false),())else some (((false,y28.1,y30.1),true),())else none else none else none else none
theorem g1m (T:ByteArray) (n:Bool) (hsz:T.size<=1000000):
  (Option.bind (S.a8l (T,((47:Int),()))) (fun(z0:((List ByteArray)×Unit))=>(if((decide (((List.length z0.1):Int)>(2:Int)))=true)then(some (((false,(([]:List Int),([]:List Int))),false),()))
 else(if((decide ((0:Int)<((List.length z0.1):Int)))=true)then(Option.bind (S.a0x ((List.getD z0.1 (0:Nat) (Go.Cm.bs [])),())) (fun(z1:(Bool×Unit))=>(if((!z1.1)=true)then(some (((false,(([]:List Int),([]:List Int))),false),()))
 else(if((decide ((0:Int)<((List.length z0.1):Int)))=true)then(Option.bind (S.a0s ((List.getD z0.1 (0:Nat) (Go.Cm.bs [])),())) (fun(z2:((List Int)×Unit))=>(if(n=true)then(if((((List.length z2.1):Int)==(0:Int))=true)then(some (((false,(([]:List Int),([]:List Int))),false),()))
 else(if((((List.length z0.1):Int)==(1:Int))=true)then(some (((n,(z2.1,((1:Int)::([]:List Int)))),true),()))
 else(if((decide ((1:Int)<((List.length z0.1):Int)))=true)then(Option.bind (S.a0x ((List.getD z0.1 (1:Nat) (Go.Cm.bs [])),())) (fun(z3:(Bool×Unit))=>(if((!z3.1)=true)then(some (((false,(([]:List Int),([]:List Int))),false),()))
 else(if((decide ((1:Int)<((List.length z0.1):Int)))=true)then(Option.bind (S.a0s ((List.getD z0.1 (1:Nat) (Go.Cm.bs [])),())) (fun(z4:((List Int)×Unit))=>(Option.bind (S.a0n (z4.1,(((1:Int)::([]:List Int)),()))) (fun(z5:(Int×Unit))=>(if((decide (z5.1<=(0:Int)))=true)then(some (((false,(([]:List Int),([]:List Int))),false),()))
 else(Option.bind (S.a3l (z2.1,(z4.1,()))) (fun(z6:((List Int)×Unit))=>(Option.bind (S.a0n (z6.1,(((1:Int)::([]:List Int)),()))) (fun(z7:(Int×Unit))=>(if((z7.1 != (0:Int))=true)then(some (((false,(([]:List Int),([]:List Int))),false),()))
 else(some (((n,(z2.1,z4.1)),true),()))))))))))))
 else none))))
 else none)))
 else(if((((List.length z0.1):Int)==(1:Int))=true)then(some (((n,(z2.1,((1:Int)::([]:List Int)))),true),()))
 else(if((decide ((1:Int)<((List.length z0.1):Int)))=true)then(Option.bind (S.a0x ((List.getD z0.1 (1:Nat) (Go.Cm.bs [])),())) (fun(z8:(Bool×Unit))=>(if((!z8.1)=true)then(some (((false,(([]:List Int),([]:List Int))),false),()))
 else(if((decide ((1:Int)<((List.length z0.1):Int)))=true)then(Option.bind (S.a0s ((List.getD z0.1 (1:Nat) (Go.Cm.bs [])),())) (fun(z9:((List Int)×Unit))=>(Option.bind (S.a0n (z9.1,(((1:Int)::([]:List Int)),()))) (fun(z10:(Int×Unit))=>(if((decide (z10.1<=(0:Int)))=true)then(some (((false,(([]:List Int),([]:List Int))),false),()))
 else(Option.bind (S.a3l (z2.1,(z9.1,()))) (fun(z11:((List Int)×Unit))=>(Option.bind (S.a0n (z11.1,(((1:Int)::([]:List Int)),()))) (fun(z12:(Int×Unit))=>(if((z12.1 != (0:Int))=true)then(some (((false,(([]:List Int),([]:List Int))),false),()))
 else(some (((n,(z2.1,z9.1)),true),()))))))))))))
 else none))))
 else none)))))
 else none))))
 else none))))=some ((rp B10 (a6j n (b0y 47 T.data.toList)).1,(a6j n (b0y 47 T.data.toList)).2),()):=by
 have hbad:((false,(([]:List Int),([]:List Int))),false)=(rp B10 noQ.1,noQ.2):=by
  unfold noQ rp;dsimp only;rw[a1t a0e]
 have hcut:S.a8l (T,(47,()))=some ((b0c T 47 (T.size+1)).1,()):=by
  unfold S.a8l;exact if_pos hsz
 have hp:(b0c T 47 (T.size+1)).1.map (·.data.toList)=a5j 47 T.data.toList:=c7w T 47;have hlen:∀A∈(b0c T 47 (T.size+1)).1,A.data.toList.length<=1000000:=by
  intro A hA;have h1:=d6q 47 T.data.toList A.data.toList (by rw[<-hp];exact List.mem_map_of_mem hA);have h2:T.size=T.data.toList.length:=by rw[Array.length_toList];rfl
  omega
 rw[hcut,Option.bind_some,hbad];generalize (b0c T 47 (T.size+1)).1=ps at*;rw[b7q]at hp;generalize hc:b0y 47 T.data.toList=c at*;have hDig:∀A∈ps,S.a0x (A,())=some (okN A.data.toList,()):=by
  intro A hA;have h1:=hlen A hA;have h2:A.size=A.data.toList.length:=by rw[Array.length_toList];rfl
  unfold S.a0x;exact if_pos (by dsimp only;omega)
 have hRead:∀A∈ps,okN A.data.toList=true->S.a0s (A,())=some (nd B10 (dv A.data.toList),()):=by
  intro A hA hok;have h1:=c0t hok;unfold S.a0s;exact if_pos ⟨h1.1,by dsimp only;omega⟩
 have hz:∀m:Nat,(((nd B10 m).length:Int)==0)=decide (m=0):=by
  intro m;have:=a9o a0e (a0j a0e m);rw[a0i a0e]at this
  by_cases h0:m=0
  ·rw[this.2 h0,h0];rfl
  ·have hne:=fun q=>h0 (this.1 q)
   rw[decide_eq_false h0];simpa using hne
 have hone:([1]:List Int)=nd B10 1:=(e3e a0e).symm;unfold a6j;cases hf:c.2.2
 ·
  rw[hf,if_neg (by decide)]at hp;obtain⟨A,rfl,hA⟩:∃A,ps=[A]/\A.data.toList=c.1:=by
   exact List.map_eq_singleton_iff.1 hp
  have hd:=hDig A (by simp);have hr:=hRead A (by simp);rw[hA]at hd hr;have l1:¬(((List.length [A]:Nat):Int)>2):=by simp
  have l2:(0:Int)<((List.length [A]:Nat):Int):=by simp
  have l3:(((List.length [A]:Nat):Int)==1)=true:=rfl;simp only[l1,l2,l3,decide_true,decide_false,if_true,if_false,Bool.false_eq_true,List.getD_cons_zero];rw[hd,Option.bind_some];dsimp only;cases hok:okN c.1
  ·rw[if_pos (show(!false)=true by rfl),if_neg (fun q=>by cases q.1)]
  ·rw[if_neg (show ¬((!true)=true) by decide),hr hok,Option.bind_some];dsimp only;rw[hz];cases n
   ·rw[if_neg (show ¬((false:Bool)=true) by decide),if_pos ⟨rfl,fun q=>by cases q.1⟩,hone];rfl
   ·rw[if_pos rfl]
    by_cases h0:dv c.1=0
    ·rw[if_pos (decide_eq_true h0),if_neg (fun q=>q.2 ⟨rfl,h0⟩)]
    ·rw[if_neg (by simpa using h0),if_pos ⟨rfl,fun q=>h0 q.2⟩,hone];rfl
 ·rw[hf,if_pos rfl,b7q]at hp;cases hf2:(b0y 47 c.2.1).2.2
  ·rw[hf2,if_neg (by decide)]at hp;have hy:(b0y 47 c.2.1).1=c.2.1:=((c5x 47 c.2.1).1 hf2).2.1;rw[hy]at hp;obtain⟨A,B,rfl,hA,hB⟩:∃A B,ps=[A,B]/\A.data.toList=c.1/\B.data.toList=c.2.1:=by
    obtain⟨A,q,rfl,hA,hq⟩:=List.map_eq_cons_iff.1 hp;obtain⟨B,rfl,hB⟩:=List.map_eq_singleton_iff.1 hq;exact⟨A,B,rfl,hA,hB⟩
   have hd:=hDig A (by simp);have hr:=hRead A (by simp);have hd2:=hDig B (by simp);have hr2:=hRead B (by simp);rw[hA]at hd hr;rw[hB]at hd2 hr2;have l1:¬(((List.length [A,B]:Nat):Int)>2):=by simp
   have l2:(0:Int)<((List.length [A,B]:Nat):Int):=by simp
   have l3:(((List.length [A,B]:Nat):Int)==1)=false:=rfl;have l4:(1:Int)<((List.length [A,B]:Nat):Int):=by simp
   simp only[l1,l2,l3,l4,decide_true,decide_false,if_true,if_false,Bool.false_eq_true,List.getD_cons_zero,List.getD_cons_succ];rw[hd,Option.bind_some];dsimp only;cases hok:okN c.1
   ·rw[if_pos (show(!false)=true by rfl),if_neg (fun q=>by cases q.1)]
   ·rw[if_neg (show ¬((!true)=true) by decide),hr hok,Option.bind_some];dsimp only;have la:=b6k (B:=B10) (by decide) (c7q hok);have hrest:∀(m:Bool),¬(m=true/\dv c.1=0)->(Option.bind (S.a0x (B,())) (fun(w0:(Bool×Unit))=>(if((!w0.1)=true)then(some ((rp B10 noQ.1,noQ.2),()))
 else(Option.bind (S.a0s (B,())) (fun(w1:((List Int)×Unit))=>(Option.bind (S.a0n (w1.1,(((1:Int)::([]:List Int)),()))) (fun(w2:(Int×Unit))=>(if((decide (w2.1<=(0:Int)))=true)then(some ((rp B10 noQ.1,noQ.2),()))
 else(Option.bind (S.a3l (nd B10 (dv c.1),(w1.1,()))) (fun(w3:((List Int)×Unit))=>(Option.bind (S.a0n (w3.1,(((1:Int)::([]:List Int)),()))) (fun(w4:(Int×Unit))=>(if((w4.1 != (0:Int))=true)then(some ((rp B10 noQ.1,noQ.2),()))
 else(some (((m,(nd B10 (dv c.1),w1.1)),true),())))))))))))))))=some ((rp B10 (if okN c.2.1=true/\1<dv c.2.1/\Nat.gcd (dv c.1) (dv c.2.1)=1 then((m,(dv c.1,dv c.2.1)),true)else noQ).1,(if okN c.2.1=true/\1<dv c.2.1/\Nat.gcd (dv c.1) (dv c.2.1)=1 then((m,(dv c.1,dv c.2.1)),true)else noQ).2),()):=by
     intro m hm;rw[hd2,Option.bind_some];dsimp only;cases hb:okN c.2.1
     ·have hx:¬((false:Bool)=true/\1<dv c.2.1/\Nat.gcd (dv c.1) (dv c.2.1)=1):=fun q=>by cases q.1
      rw[if_pos (show(!false)=true by rfl),if_neg hx]
     ·have lb:=b6k (B:=B10) (by decide) (c7q hb);rw[if_neg (show ¬((!true)=true) by decide),hr2 hb,Option.bind_some];dsimp only;have e1:S.a0n (nd B10 (dv c.2.1),([1],()))=some (b0u (dv c.2.1) 1,()):=by
       unfold S.a0n;dsimp only;rw[if_pos ⟨a0j a0e _,b6j a0e,by omega⟩,a0i a0e,b7p]
      have e2:S.a3l (nd B10 (dv c.1),(nd B10 (dv c.2.1),()))=some (nd B10 (Nat.gcd (dv c.1) (dv c.2.1)),()):=by
       unfold S.a3l;dsimp only;rw[if_pos ⟨a0j a0e _,a0j a0e _,by omega,by omega⟩,a0i a0e,a0i a0e]
      rw[e1,Option.bind_some];dsimp only
      by_cases h1:1<dv c.2.1
      ·have hcm:¬(b0u (dv c.2.1) 1<=0):=by
        have:=(c5w (a:=dv c.2.1) (b:=1)).2 h1;omega
       have lg:(nd B10 (Nat.gcd (dv c.1) (dv c.2.1))).length<=200:=Nat.le_trans (a6t a0e (Nat.le_of_dvd (by omega) (Nat.gcd_dvd_right _ _))) lb;have e3:S.a0n (nd B10 (Nat.gcd (dv c.1) (dv c.2.1)),([1],()))=some (b0u (Nat.gcd (dv c.1) (dv c.2.1)) 1,()):=by
        unfold S.a0n;dsimp only;rw[if_pos ⟨a0j a0e _,b6j a0e,by omega⟩,a0i a0e,b7p]
       rw[if_neg (by simpa using hcm),e2,Option.bind_some];dsimp only;rw[e3,Option.bind_some];dsimp only
       by_cases hg:Nat.gcd (dv c.1) (dv c.2.1)=1
       ·rw[if_neg (by simpa using a4z.2 hg),if_pos ⟨rfl,h1,hg⟩];rfl
       ·rw[if_pos (by simpa using fun q=>hg (a4z.1 q)),if_neg (fun q=>hg q.2.2)]
      ·have hcm:b0u (dv c.2.1) 1<=0:=by
        have h2:¬(b0u (dv c.2.1) 1>0):=fun q=>h1 ((c5w (a:=dv c.2.1) (b:=1)).1 q)
        omega
       rw[if_pos (decide_eq_true hcm),if_neg (fun q=>h1 q.2.1)]
    rw[hz];cases n
    ·have hm:¬((false:Bool)=true/\dv c.1=0):=fun q=>by cases q.1
     rw[if_neg (show ¬((false:Bool)=true) by decide),if_pos ⟨rfl,hm⟩];exact hrest false hm
    ·rw[if_pos rfl]
     by_cases h0:dv c.1=0
     ·rw[if_pos (decide_eq_true h0),if_neg (fun q=>q.2 ⟨rfl,h0⟩)]
     ·have hm:¬((true:Bool)=true/\dv c.1=0):=fun q=>h0 q.2
      rw[if_neg (by simpa using h0),if_pos ⟨rfl,hm⟩];exact hrest true hm
  ·
   rw[hf2,if_pos rfl]at hp;have hl:ps.length=2+(a5j 47 (b0y 47 c.2.1).2.1).length:=by
    have:=congrArg List.length hp;simp at this;omega
   have hl2:(a5j 47 (b0y 47 c.2.1).2.1).length≠0:=fun q=>b9r 47 _ (List.eq_nil_of_length_eq_zero q)
   have l1:((ps.length:Nat):Int)>2:=by omega
   have hx:¬(okN c.2.1=true/\1<dv c.2.1/\Nat.gcd (dv c.1) (dv c.2.1)=1):=fun q=>by
    have:=e3f (c0t q.1).1;rw[hf2]at this;cases this
   rw[if_pos (decide_eq_true l1),if_pos rfl,if_neg hx];split<;>rfl
theorem pp_plain (T:ByteArray) (hsz:T.size<=1000000):
  (Option.bind (S.a8l (T,((47:Int),()))) (fun(z0:((List ByteArray)×Unit))=>(if((decide (((List.length z0.1):Int)>(2:Int)))=true)then(some (((false,(([]:List Int),([]:List Int))),false),()))
 else(if((decide ((0:Int)<((List.length z0.1):Int)))=true)then(Option.bind (S.a0x ((List.getD z0.1 (0:Nat) (Go.Cm.bs [])),())) (fun(z1:(Bool×Unit))=>(if((!z1.1)=true)then(some (((false,(([]:List Int),([]:List Int))),false),()))
 else(if((decide ((0:Int)<((List.length z0.1):Int)))=true)then(Option.bind (S.a0s ((List.getD z0.1 (0:Nat) (Go.Cm.bs [])),())) (fun(z2:((List Int)×Unit))=>(if((((List.length z0.1):Int)==(1:Int))=true)then(some (((false,(z2.1,((1:Int)::([]:List Int)))),true),()))
 else(if((decide ((1:Int)<((List.length z0.1):Int)))=true)then(Option.bind (S.a0x ((List.getD z0.1 (1:Nat) (Go.Cm.bs [])),())) (fun(z3:(Bool×Unit))=>(if((!z3.1)=true)then(some (((false,(([]:List Int),([]:List Int))),false),()))
 else(if((decide ((1:Int)<((List.length z0.1):Int)))=true)then(Option.bind (S.a0s ((List.getD z0.1 (1:Nat) (Go.Cm.bs [])),())) (fun(z4:((List Int)×Unit))=>(Option.bind (S.a0n (z4.1,(((1:Int)::([]:List Int)),()))) (fun(z5:(Int×Unit))=>(if((decide (z5.1<=(0:Int)))=true)then(some (((false,(([]:List Int),([]:List Int))),false),()))
 else(Option.bind (S.a3l (z2.1,(z4.1,()))) (fun(z6:((List Int)×Unit))=>(Option.bind (S.a0n (z6.1,(((1:Int)::([]:List Int)),()))) (fun(z7:(Int×Unit))=>(if((z7.1 != (0:Int))=true)then(some (((false,(([]:List Int),([]:List Int))),false),()))
 else(some (((false,(z2.1,z4.1)),true),()))))))))))))
 else none))))
 else none))))
 else none))))
 else none))))=some ((rp B10 (a6j false (b0y 47 T.data.toList)).1,(a6j false (b0y 47 T.data.toList)).2),()):=by
 have hbad:((false,(([]:List Int),([]:List Int))),false)=(rp B10 noQ.1,noQ.2):=by
  unfold noQ rp;dsimp only;rw[a1t a0e]
 have hcut:S.a8l (T,(47,()))=some ((b0c T 47 (T.size+1)).1,()):=by
  unfold S.a8l;exact if_pos hsz
 have hp:(b0c T 47 (T.size+1)).1.map (·.data.toList)=a5j 47 T.data.toList:=c7w T 47;have hlen:∀A∈(b0c T 47 (T.size+1)).1,A.data.toList.length<=1000000:=by
  intro A hA;have h1:=d6q 47 T.data.toList A.data.toList (by rw[<-hp];exact List.mem_map_of_mem hA);have h2:T.size=T.data.toList.length:=by rw[Array.length_toList];rfl
  omega
 rw[hcut,Option.bind_some,hbad];generalize (b0c T 47 (T.size+1)).1=ps at*;rw[b7q]at hp;generalize hc:b0y 47 T.data.toList=c at*;have hDig:∀A∈ps,S.a0x (A,())=some (okN A.data.toList,()):=by
  intro A hA;have h1:=hlen A hA;have h2:A.size=A.data.toList.length:=by rw[Array.length_toList];rfl
  unfold S.a0x;exact if_pos (by dsimp only;omega)
 have hRead:∀A∈ps,okN A.data.toList=true->S.a0s (A,())=some (nd B10 (dv A.data.toList),()):=by
  intro A hA hok;have h1:=c0t hok;unfold S.a0s;exact if_pos ⟨h1.1,by dsimp only;omega⟩
 have hz:∀m:Nat,(((nd B10 m).length:Int)==0)=decide (m=0):=by
  intro m;have:=a9o a0e (a0j a0e m);rw[a0i a0e]at this
  by_cases h0:m=0
  ·rw[this.2 h0,h0];rfl
  ·have hne:=fun q=>h0 (this.1 q)
   rw[decide_eq_false h0];simpa using hne
 have hone:([1]:List Int)=nd B10 1:=(e3e a0e).symm;unfold a6j;cases hf:c.2.2
 ·
  rw[hf,if_neg (by decide)]at hp;obtain⟨A,rfl,hA⟩:∃A,ps=[A]/\A.data.toList=c.1:=by
   exact List.map_eq_singleton_iff.1 hp
  have hd:=hDig A (by simp);have hr:=hRead A (by simp);rw[hA]at hd hr;have l1:¬(((List.length [A]:Nat):Int)>2):=by simp
  have l2:(0:Int)<((List.length [A]:Nat):Int):=by simp
  have l3:(((List.length [A]:Nat):Int)==1)=true:=rfl;simp only[l1,l2,l3,decide_true,decide_false,if_true,if_false,Bool.false_eq_true,List.getD_cons_zero];rw[hd,Option.bind_some];dsimp only;cases hok:okN c.1
  ·rw[if_pos (show(!false)=true by rfl),if_neg (fun q=>by cases q.1)]
  ·rw[if_neg (show ¬((!true)=true) by decide),hr hok,Option.bind_some];dsimp only;rw[if_pos ⟨rfl,fun q=>by cases q.1⟩,hone];rfl
 ·rw[hf,if_pos rfl,b7q]at hp;cases hf2:(b0y 47 c.2.1).2.2
  ·rw[hf2,if_neg (by decide)]at hp;have hy:(b0y 47 c.2.1).1=c.2.1:=((c5x 47 c.2.1).1 hf2).2.1;rw[hy]at hp;obtain⟨A,B,rfl,hA,hB⟩:∃A B,ps=[A,B]/\A.data.toList=c.1/\B.data.toList=c.2.1:=by
    obtain⟨A,q,rfl,hA,hq⟩:=List.map_eq_cons_iff.1 hp;obtain⟨B,rfl,hB⟩:=List.map_eq_singleton_iff.1 hq;exact⟨A,B,rfl,hA,hB⟩
   have hd:=hDig A (by simp);have hr:=hRead A (by simp);have hd2:=hDig B (by simp);have hr2:=hRead B (by simp);rw[hA]at hd hr;rw[hB]at hd2 hr2;have l1:¬(((List.length [A,B]:Nat):Int)>2):=by simp
   have l2:(0:Int)<((List.length [A,B]:Nat):Int):=by simp
   have l3:(((List.length [A,B]:Nat):Int)==1)=false:=rfl;have l4:(1:Int)<((List.length [A,B]:Nat):Int):=by simp
   simp only[l1,l2,l3,l4,decide_true,decide_false,if_true,if_false,Bool.false_eq_true,List.getD_cons_zero,List.getD_cons_succ];rw[hd,Option.bind_some];dsimp only;cases hok:okN c.1
   ·rw[if_pos (show(!false)=true by rfl),if_neg (fun q=>by cases q.1)]
   ·rw[if_neg (show ¬((!true)=true) by decide),hr hok,Option.bind_some];dsimp only;have la:=b6k (B:=B10) (by decide) (c7q hok);have hrest:∀(m:Bool),¬(m=true/\dv c.1=0)->(Option.bind (S.a0x (B,())) (fun(w0:(Bool×Unit))=>(if((!w0.1)=true)then(some ((rp B10 noQ.1,noQ.2),()))
 else(Option.bind (S.a0s (B,())) (fun(w1:((List Int)×Unit))=>(Option.bind (S.a0n (w1.1,(((1:Int)::([]:List Int)),()))) (fun(w2:(Int×Unit))=>(if((decide (w2.1<=(0:Int)))=true)then(some ((rp B10 noQ.1,noQ.2),()))
 else(Option.bind (S.a3l (nd B10 (dv c.1),(w1.1,()))) (fun(w3:((List Int)×Unit))=>(Option.bind (S.a0n (w3.1,(((1:Int)::([]:List Int)),()))) (fun(w4:(Int×Unit))=>(if((w4.1 != (0:Int))=true)then(some ((rp B10 noQ.1,noQ.2),()))
 else(some (((m,(nd B10 (dv c.1),w1.1)),true),())))))))))))))))=some ((rp B10 (if okN c.2.1=true/\1<dv c.2.1/\Nat.gcd (dv c.1) (dv c.2.1)=1 then((m,(dv c.1,dv c.2.1)),true)else noQ).1,(if okN c.2.1=true/\1<dv c.2.1/\Nat.gcd (dv c.1) (dv c.2.1)=1 then((m,(dv c.1,dv c.2.1)),true)else noQ).2),()):=by
     intro m hm;rw[hd2,Option.bind_some];dsimp only;cases hb:okN c.2.1
     ·have hx:¬((false:Bool)=true/\1<dv c.2.1/\Nat.gcd (dv c.1) (dv c.2.1)=1):=fun q=>by cases q.1
      rw[if_pos (show(!false)=true by rfl),if_neg hx]
     ·have lb:=b6k (B:=B10) (by decide) (c7q hb);rw[if_neg (show ¬((!true)=true) by decide),hr2 hb,Option.bind_some];dsimp only;have e1:S.a0n (nd B10 (dv c.2.1),([1],()))=some (b0u (dv c.2.1) 1,()):=by
       unfold S.a0n;dsimp only;rw[if_pos ⟨a0j a0e _,b6j a0e,by omega⟩,a0i a0e,b7p]
      have e2:S.a3l (nd B10 (dv c.1),(nd B10 (dv c.2.1),()))=some (nd B10 (Nat.gcd (dv c.1) (dv c.2.1)),()):=by
       unfold S.a3l;dsimp only;rw[if_pos ⟨a0j a0e _,a0j a0e _,by omega,by omega⟩,a0i a0e,a0i a0e]
      rw[e1,Option.bind_some];dsimp only
      by_cases h1:1<dv c.2.1
      ·have hcm:¬(b0u (dv c.2.1) 1<=0):=by
        have:=(c5w (a:=dv c.2.1) (b:=1)).2 h1;omega
       have lg:(nd B10 (Nat.gcd (dv c.1) (dv c.2.1))).length<=200:=Nat.le_trans (a6t a0e (Nat.le_of_dvd (by omega) (Nat.gcd_dvd_right _ _))) lb;have e3:S.a0n (nd B10 (Nat.gcd (dv c.1) (dv c.2.1)),([1],()))=some (b0u (Nat.gcd (dv c.1) (dv c.2.1)) 1,()):=by
        unfold S.a0n;dsimp only;rw[if_pos ⟨a0j a0e _,b6j a0e,by omega⟩,a0i a0e,b7p]
       rw[if_neg (by simpa using hcm),e2,Option.bind_some];dsimp only;rw[e3,Option.bind_some];dsimp only
       by_cases hg:Nat.gcd (dv c.1) (dv c.2.1)=1
       ·rw[if_neg (by simpa using a4z.2 hg),if_pos ⟨rfl,h1,hg⟩];rfl
       ·rw[if_pos (by simpa using fun q=>hg (a4z.1 q)),if_neg (fun q=>hg q.2.2)]
      ·have hcm:b0u (dv c.2.1) 1<=0:=by
        have h2:¬(b0u (dv c.2.1) 1>0):=fun q=>h1 ((c5w (a:=dv c.2.1) (b:=1)).1 q)
        omega
       rw[if_pos (decide_eq_true hcm),if_neg (fun q=>h1 q.2.1)]
    have hm:¬((false:Bool)=true/\dv c.1=0):=fun q=>by cases q.1
    rw[if_pos ⟨rfl,fun q=>q.1⟩];exact hrest false hm
  ·
   rw[hf2,if_pos rfl]at hp;have hl:ps.length=2+(a5j 47 (b0y 47 c.2.1).2.1).length:=by
    have:=congrArg List.length hp;simp at this;omega
   have hl2:(a5j 47 (b0y 47 c.2.1).2.1).length≠0:=fun q=>b9r 47 _ (List.eq_nil_of_length_eq_zero q)
   have l1:((ps.length:Nat):Int)>2:=by omega
   have hx:¬(okN c.2.1=true/\1<dv c.2.1/\Nat.gcd (dv c.1) (dv c.2.1)=1):=fun q=>by
    have:=e3f (c0t q.1).1;rw[hf2]at this;cases this
   rw[if_pos (decide_eq_true l1),if_pos rfl,if_neg hx];split<;>rfl
def S.b4a (x:(ByteArray×Unit)):(Option ((RB×Bool)×Unit)):=if x.1.size<=1000000 then some ((rp B10 (a5x x.1.data.toList).1,(a5x x.1.data.toList).2),())else none
theorem S.e1f (x r) (h:S.b4a x=some r):∃k,P.c7f k x=some r:=by
 obtain⟨s,u⟩:=x;unfold S.b4a at h;dsimp only at h;split at h
 case isFalse=>cases h
 rename_i hsz;refine⟨0,?_⟩;rw[<-h];unfold P.c7f;dsimp only;have hs:s.size=s.data.toList.length:=by rw[Array.length_toList];rfl
 unfold a5x
 by_cases h0:s.data.toList=[]
 ·have l1:¬((s.size:Int)>0):=by rw[hs,h0];simp
  rw[if_neg (by simpa using l1),h0,if_neg (by simp),<-h0];exact pp_plain s hsz
 ·have hpos:0<s.data.toList.length:=List.length_pos_iff.2 h0;have l1:(s.size:Int)>0:=by omega
  have l2:(0:Int)<(s.size:Int):=by omega
  have l3:(0:Int)<=(s.size:Int):=by omega
  have l4:(1:Int)<=(s.size:Int):=by omega
  have hb:a2i s 0=(s.data.toList[0].toNat:Int):=congrArg (fun c:UInt8=>(c.toNat:Int)) (a0m s.data.toList 0 0 hpos);have hh:s.data.toList.head? =some s.data.toList[0]:=by
   generalize s.data.toList=l at*;cases l with
   |nil=>simp at h0
   |cons c r=>rfl
  rw[if_pos (decide_eq_true l1),if_pos (decide_eq_true l2),hh,Int.toNat_natCast]
  by_cases c1:s.data.toList[0]=45
  ·have hn:(a2i s 0==45)=true:=by
    rw[hb,c1];rfl
   have hx:(ByteArray.extract s 1 s.size).data.toList=s.data.toList.tail:=by
    rw[d8w,List.take_of_length_le (by omega),List.drop_one]
   have hxs:(ByteArray.extract s 1 s.size).size<=1000000:=by
    have:(ByteArray.extract s 1 s.size).size=(ByteArray.extract s 1 s.size).data.toList.length:=by rw[Array.length_toList];rfl
    rw[this,hx];simp;omega
   rw[hn,if_pos rfl,if_pos (decide_eq_true l3),if_pos (decide_eq_true (Int.le_refl _)),if_pos (decide_eq_true l4),if_pos (by rw[c1])];have:=g1m (ByteArray.extract s 1 s.size) true hxs;rw[hx]at this;exact this
  ·have hn:(a2i s 0==45)=false:=by
    rw[hb,beq_eq_false_iff_ne];intro q;apply c1;apply UInt8.toNat_inj.1;show _=45;omega
   rw[hn,if_neg (show ¬((false:Bool)=true) by decide),if_neg (by rw[Option.some.injEq];exact c1)];exact g1m s false hsz
abbrev P.b5v (x1:Int×Int×List ByteArray×List RB×Unit) (g2:Int×Int×List ByteArray×List RB×Unit->Option ((List RB×Bool)×Unit)):Option ((List RB×Bool)×Unit):=
 if decide (x1.1<x1.2.1)then if decide (0<=x1.1)then if decide (x1.1<(x1.2.2.1.length:Int))then(S.b4a (x1.2.2.1.getD x1.1.toNat (bs []),())).bind fun y3=>if !y3.1.2 then some (([],false),())else if decide (((x1.2.2.2.1.length+(List.length [(y3.1.1.1,y3.1.1.2.1,y3.1.1.2.2)]))*56)<=140737488355328)then g2 (wrap .i64 (x1.1+1),x1.2.1,x1.2.2.1,x1.2.2.2.1++[(y3.1.1.1,y3.1.1.2.1,y3.1.1.2.2)],())else none else none else none else some ((x1.2.2.2.1,true),())
def P.d4a (k:Nat) (x:List ByteArray×Unit):Option ((List RB×Bool)×Unit):=
 if decide ((x.1.length:Int)>300)then some (([],false),())else loopP P.b5v k (0,(x.1.length:Int),x.1,[],())
open Classical in
def S.b2o (x:((List ByteArray)×Unit)):(Option (((List RB)×Bool)×Unit)):=if okT x.1=true then some (((a1u x.1).1.map (rp B10),(a1u x.1).2),())else none
theorem d6g (s:ByteArray) (h:s.size<=1000000):S.b4a (s,())=some ((rp B10 (a5x s.data.toList).1,(a5x s.data.toList).2),()):=by
 unfold S.b4a;exact if_pos (by dsimp only;omega)
theorem S.e6w (x r) (h:S.b2o x=some r):∃k,P.d4a k x=some r:=by
 obtain⟨ls,u⟩:=x;unfold S.b2o at h;dsimp only at h;split at h
 case isFalse=>cases h
 rename_i hc;cases h;refine⟨ls.length+1,?_⟩;unfold P.d4a a1u;dsimp only
 by_cases hl:(ls.length:Int)>300
 ·rw[if_pos (decide_eq_true hl),if_neg (show ¬(ls.length<=300/\(ls.all fun s=>(a5x s.data.toList).2)=true)from fun z=>by omega)];rfl
 rw[if_neg (by simpa using hl)];have key:=a0g (k:=ls.length+1) (b:=P.b5v) (n:=ls.length) (st:=fun i=>((i:Int),(ls.length:Int),ls,(ls.take i).map (fun s=>rp B10 (a5x s.data.toList).1),())) (F:=fun i=>some (if((ls.drop i).all fun s=>(a5x s.data.toList).2)=true then(ls.map (fun s=>rp B10 (a5x s.data.toList).1),true)else([],false),())) (fun i g hi hg=>by
  unfold P.b5v;dsimp only at hg ⊢;have e1:(i:Int)<(ls.length:Int):=by omega
  have e2:(0:Int)<=(i:Int):=by omega
  simp only[e1,e2,decide_true,if_true];rw[a0m ls i _ hi,d6g _ (f7p hc hi),Option.bind_some,List.drop_eq_getElem_cons hi,List.all_cons];dsimp only;cases hf:(a5x ls[i].data.toList).2
  ·rw[if_pos (by rfl),if_neg (by simp)]
  ·rw[if_neg (by simp),wr (by omega) (by omega),Bool.true_and,<-hg];have e3:((List.map (fun s:ByteArray=>rp B10 (a5x s.data.toList).1) (ls.take i)).length+1)*56<=140737488355328:=by
    rw[List.length_map,List.length_take];omega
   simp only[List.length_cons,List.length_nil,Nat.zero_add];rw[if_pos (decide_eq_true e3),List.take_add_one,List.getElem?_eq_getElem hi,Option.toList_some,List.map_append];rfl) (fun g=>by
  unfold P.b5v;dsimp only;rw[if_neg (by simp),List.take_length,List.drop_length];rfl) (by omega)
 refine key.trans ?_;rw[List.drop_zero]
 by_cases ha:(ls.all fun s=>(a5x s.data.toList).2)=true
 ·rw[if_pos ha,if_pos (show ls.length<=300/\(ls.all fun s=>(a5x s.data.toList).2)=true from⟨by omega,ha⟩),List.map_map];rfl
 ·rw[if_neg ha,if_neg (fun z=>ha z.2)];rfl
def P.e1g (k:Nat) (x:Unit):Option (RB×Unit):=
 (S.b7i (1,())).bind fun y0=>some ((y0.1.1,y0.1.2.1,y0.1.2.2),())
def S.b3p (x:Unit):(Option (RB×Unit)):=P.e1g 0 x
theorem S.f0t (x r) (h:S.b3p x=some r):∃k,P.e1g k x=some r:=⟨0,h⟩
def P.c7g (k:Nat) (x:RB×RB×Unit):Option (Bool×Unit):=
 if x.1.1==x.2.1.1 then(S.a1d (x.1.2.1,x.2.1.2.2,())).bind fun y0=>(S.a1d (x.2.1.2.1,x.1.2.2,())).bind fun y1=>(S.a0n (y0.1,y1.1,())).bind fun y2=>some (y2.1==0,())else some (false,())
def S.b1j (x:(RB×(RB×Unit))):(Option (Bool×Unit)):=if rok B10 40000000 x.1=true/\rok B10 40000000 x.2.1=true then some (decide ((rv B10 x.1).1=(rv B10 x.2.1).1/\(rv B10 x.1).2.1*(rv B10 x.2.1).2.2=(rv B10 x.2.1).2.1*(rv B10 x.1).2.2),())else none
theorem S.e1h (x r) (h:S.b1j x=some r):∃k,P.c7g k x=some r:=by
 obtain⟨x,y,u⟩:=x;unfold S.b1j at h;dsimp only at h;split at h
 case isFalse=>cases h
 rename_i hc;obtain⟨n1,p1,q1,rfl,l1,l2⟩:=a9q hc.1;obtain⟨n2,p2,q2,rfl,l3,l4⟩:=a9q hc.2;rw[b7t a0e,b7t a0e]at h;cases h;refine⟨0,?_⟩;unfold P.c7g;dsimp only;have em:∀p q,(nd B10 p).length<=40000000->(nd B10 q).length<=40000000->S.a1d (nd B10 p,(nd B10 q,()))=some (nd B10 (p*q),()):=by
  intro p q hp hq;unfold S.a1d;dsimp only;rw[if_pos ⟨a4f a0e _,a4f a0e _,by omega,by omega⟩,a0i a0e,a0i a0e]
 have ec:S.a0n (nd B10 (p1*q2),(nd B10 (p2*q1),()))=some (b0u (p1*q2) (p2*q1),()):=by
  have:=a5a a0e p1 q2;unfold S.a0n;dsimp only;rw[if_pos ⟨a0j a0e _,a0j a0e _,by omega⟩,a0i a0e,a0i a0e]
 by_cases hn:n1=n2
 ·rw[if_pos (by simpa using hn),em _ _ l1 l4,Option.bind_some,em _ _ l3 l2,Option.bind_some];dsimp only;rw[ec,Option.bind_some];dsimp only;have hz:=a4z (a:=p1*q2) (b:=p2*q1)
  by_cases he:p1*q2=p2*q1
  ·rw[decide_eq_true ⟨hn,he⟩,hz.2 he];rfl
  ·rw[decide_eq_false (fun z=>he z.2),beq_eq_false_iff_ne.2 (fun z=>he (hz.1 z))]
 ·rw[if_neg (by simpa using hn),decide_eq_false (fun z=>hn z.1)]
abbrev P.b3q (x2:Int×Int×RB×List RB×RB×Unit) (g3:Int×Int×RB×List RB×RB×Unit->Option (RB×Unit)):Option (RB×Unit):=
 if decide (x2.1<x2.2.1)then if decide (0<=x2.1)then if decide (x2.1<(x2.2.2.2.1.length:Int))then(S.a3x ((x2.2.2.1.1,x2.2.2.1.2.1,x2.2.2.1.2.2),((x2.2.2.2.1.getD x2.1.toNat (false,[],[])).1,(x2.2.2.2.1.getD x2.1.toNat (false,[],[])).2.1,(x2.2.2.2.1.getD x2.1.toNat (false,[],[])).2.2),())).bind fun y4=>g3 (wrap .i64 (x2.1+1),x2.2.1,(y4.1.1,y4.1.2.1,y4.1.2.2),x2.2.2.2.1,(x2.2.2.2.2.1.1,x2.2.2.2.2.1.2.1,x2.2.2.2.2.1.2.2),())else none else none else some ((x2.2.2.1.1,x2.2.2.1.2.1,x2.2.2.1.2.2),())
def P.c7h (k:Nat) (x:List RB×Unit):Option (RB×Unit):=
 (S.a7u ()).bind fun y0=>loopP P.b3q k (0,(x.1.length:Int),(y0.1.1,y0.1.2.1,y0.1.2.2),x.1,(false,[],[]),())
open Classical in
def S.b4b (x:((List RB)×Unit)):(Option (RB×Unit)):=if g3p B10 x.1 then some (rp B10 (a5y (x.1.map (rv B10))),())else none
theorem d6h (a b:Q3) (ha:c1l B10 40000000 (rp B10 a)=true) (hb:c1l B10 40000000 (rp B10 b)=true):S.a3x (rp B10 a,(rp B10 b,()))=some (rp B10 (a9p a b),()):=by
 unfold S.a3x;dsimp only;rw[if_pos ⟨ha,hb⟩,a2p a0e,a2p a0e]
theorem S.e1i (x r) (h:S.b4b x=some r):∃k,P.c7h k x=some r:=by
 obtain⟨xs,u⟩:=x;unfold S.b4b at h;dsimp only at h;split at h
 case isFalse=>cases h
 rename_i hc;obtain⟨qs,rfl,hlen,hq,hg⟩:=hc;cases h;refine⟨qs.length+1,?_⟩;unfold P.c7h;have hz:S.a7u ()=some (rp B10 a2c,()):=by rfl
 dsimp only;rw[hz,Option.bind_some,a5b a0e,List.length_map];have key:=a0g (k:=qs.length+1) (b:=P.b3q) (n:=qs.length) (st:=fun i=>((i:Int),(qs.length:Int),rp B10 (a5y (qs.take i)),qs.map (rp B10),(false,(([]:List Int),([]:List Int))),())) (F:=fun i=>some (rp B10 (a5y qs),())) (fun i g hi hg'=>by
  unfold P.b3q;dsimp only at hg' ⊢;have e1:(i:Int)<(qs.length:Int):=by omega
  have e2:(0:Int)<=(i:Int):=by omega
  have e3:(i:Int)<((qs.map (rp B10)).length:Int):=by rw[List.length_map];omega
  rw[if_pos (decide_eq_true e1),if_pos (decide_eq_true e2),if_pos (decide_eq_true e3),a0m (qs.map (rp B10)) i _ (by rw[List.length_map];exact hi),List.getElem_map];have ea:=d6h (a5y (qs.take i)) qs[i] (a2t (by decide) (hg i).1 (hg i).2 (by decide)) (a2t (by decide) (hq _ (List.getElem_mem hi)).1 (hq _ (List.getElem_mem hi)).2 (by decide));rw[b9v hi]at ea;show Option.bind (S.a3x (rp B10 (a5y (qs.take i)),(rp B10 qs[i],()))) _=_;rw[ea,Option.bind_some,wr (by omega) (by omega)];exact hg') (fun g=>by
  unfold P.b3q;dsimp only;rw[if_neg (by simp),List.take_length]) (by omega)
 exact key
abbrev P.a8m (x1:Int×Int×List RB×Unit) (g2:Int×Int×List RB×Unit->Option (Bool×Unit)):Option (Bool×Unit):=
 if decide (x1.1<x1.2.1)then if decide (0<=x1.1)then if decide (x1.1<(x1.2.2.1.length:Int))then if(x1.2.2.1.getD x1.1.toNat (false,[],[])).1 then some (false,())else g2 (wrap .i64 (x1.1+1),x1.2.1,x1.2.2.1,())else none else none else some (true,())
def P.b8s (k:Nat) (x:List RB×Unit):Option (Bool×Unit):=
 loopP P.a8m k (0,(x.1.length:Int),x.1,())
def S.b0d (x:((List RB)×Unit)):(Option (Bool×Unit)):=if x.1.length<=1000000000 then some (!(x.1.any fun r=>r.1),())else none
theorem S.c9b (x r) (h:S.b0d x=some r):∃k,P.b8s k x=some r:=by
 obtain⟨xs,u⟩:=x;unfold S.b0d at h;dsimp only at h;split at h
 case isFalse=>cases h
 rename_i hc;cases h;refine⟨xs.length+1,?_⟩;unfold P.b8s;have key:=a0g (k:=xs.length+1) (b:=P.a8m) (n:=xs.length) (st:=fun i=>((i:Int),(xs.length:Int),xs,())) (F:=fun i=>some (!((xs.drop i).any fun r=>r.1),())) (fun i g hi hg=>by
  unfold P.a8m;dsimp only at hg ⊢;have e1:(i:Int)<(xs.length:Int):=by omega
  have e2:(0:Int)<=(i:Int):=by omega
  rw[if_pos (decide_eq_true e1),if_pos (decide_eq_true e2),if_pos (decide_eq_true e1),a0m xs i _ hi,List.drop_eq_getElem_cons hi,List.any_cons];cases hf:xs[i].1
  ·rw[if_neg (by decide),wr (by omega) (by omega),Bool.false_or];exact hg
  ·rw[if_pos rfl];rfl) (fun g=>by
  unfold P.a8m;dsimp only;rw[if_neg (by simp),List.drop_length];rfl) (by omega)
 exact key
def P.c0n (k:Nat) (x:List RB×Unit):Option (Bool×Unit):=
 (S.b0d (x.1,())).bind fun y0=>if y0.1 then(S.b4b (x.1,())).bind fun y1=>(S.b3p ()).bind fun y2=>(S.b1j ((y1.1.1,y1.1.2.1,y1.1.2.2),(y2.1.1,y2.1.2.1,y2.1.2.2),())).bind fun y3=>some (y3.1,())else some (false,())
open Classical in
def S.a4q (x:((List RB)×Unit)):(Option (Bool×Unit)):=if e8m B10 x.1 then some (isW (x.1.map (rv B10)),())else none
theorem S.d4b (x r) (h:S.a4q x=some r):∃k,P.c0n k x=some r:=by
 obtain⟨xs,u⟩:=x;unfold S.a4q at h;dsimp only at h;split at h
 case isFalse=>cases h
 rename_i hc;obtain⟨qs,n,rfl,hg⟩:=hc;cases h;refine⟨0,?_⟩;rw[a5b a0e];unfold P.c0n S.b0d;dsimp only;have hlen:=c9h hg;rw[if_pos (by rw[List.length_map];omega),Option.bind_some,any_rp];dsimp only;unfold isW;have es:S.b4b (qs.map (rp B10),())=some (rp B10 (a5y qs),()):=by
  unfold S.b4b;dsimp only;rw[if_pos (f7z ⟨qs,n,rfl,hg⟩),a5b a0e]
 have h1:S.b3p ()=some (rp B10 c3z,()):=by rfl
 have eo:S.b1j (rp B10 (a5y qs),(rp B10 c3z,()))=some (c4a (a5y qs),()):=by
  unfold S.b1j;dsimp only;rw[if_pos ⟨f1s (by decide) hg,e3i (B:=B10) (by decide) (d6t (by decide))⟩,a2p a0e,a2p a0e];unfold c4a c3z;dsimp only;rw[Nat.mul_one,Nat.one_mul]
 cases hm:(qs.any fun r=>r.1)
 ·rw[if_pos (show(!false)=true by rfl),es,Option.bind_some,h1,Option.bind_some];show Option.bind (S.b1j (rp B10 (a5y qs),(rp B10 c3z,()))) _=_;rw[eo,Option.bind_some];rfl
 ·rfl
abbrev s_l03Parse.A:=Int×Int×List (List ByteArray)×Int×List (List RB)×List (List RB)×Unit
abbrev s_l03Parse.B:=Option ((List (List RB)×Bool)×Unit)
abbrev P.b3r (x1:s_l03Parse.A) (g2:s_l03Parse.A->s_l03Parse.B):s_l03Parse.B:=
 if decide (x1.1<x1.2.1)then if decide (0<=x1.1)then if decide (x1.1<(x1.2.2.1.length:Int))then if(List.length (x1.2.2.1.getD x1.1.toNat []):Int) != x1.2.2.2.1 then some (([],false),())else if decide (0<=x1.1)then if decide (x1.1<(x1.2.2.1.length:Int))then(S.b2o (x1.2.2.1.getD x1.1.toNat [],())).bind fun y3=>if !y3.1.2 then some (([],false),())else(S.a4q (y3.1.1,())).bind fun y4=>if !y4.1 then some (([],false),())else if decide (((x1.2.2.2.2.2.1.length+(List.length [y3.1.1]))*24)<=140737488355328)then g2 (wrap .i64 (x1.1+1),x1.2.1,x1.2.2.1,x1.2.2.2.1,x1.2.2.2.2.1,x1.2.2.2.2.2.1++[y3.1.1],())else none else none else none else none else none else some ((x1.2.2.2.2.2.1,true),())
def P.c7i (k:Nat) (x:List (List ByteArray)×Unit):s_l03Parse.B:=
 if decide ((x.1.length:Int)<1)then some (([],false),())else if decide ((x.1.length:Int)>12)then some (([],false),())else loopP P.b3r k (0,(x.1.length:Int),x.1,(x.1.length:Int),[],[],())
def S.b6z (x:((List (List ByteArray))×Unit)):(Option (((List (List RB))×Bool)×Unit)):=if x.1.all okT=true then some (((chQ x.1).1.map (fun r=>r.map (rp B10)),(chQ x.1).2),())else none
theorem S.e1j (x r) (h:S.b6z x=some r):∃k,P.c7i k x=some r:=by
 obtain⟨rows,u⟩:=x;unfold S.b6z at h;dsimp only at h;split at h
 case isFalse=>cases h
 rename_i hc;cases h;refine⟨rows.length+1,?_⟩;unfold P.c7i chQ;dsimp only
 by_cases h1:1<=rows.length
 case neg=>
  rw[if_pos (decide_eq_true (show(rows.length:Int)<1 by omega)),decide_eq_false h1];rfl
 rw[if_neg (by simpa using(show ¬(rows.length:Int)<1 by omega)),decide_eq_true h1]
 by_cases h2:rows.length<=12
 case neg=>
  rw[if_pos (decide_eq_true (show(rows.length:Int)>12 by omega)),decide_eq_false h2];rfl
 rw[if_neg (by simpa using(show ¬(rows.length:Int)>12 by omega)),decide_eq_true h2];simp only[Bool.true_and];have key:=a0g (k:=rows.length+1) (b:=P.b3r) (n:=rows.length) (st:=fun i=>((i:Int),(rows.length:Int),rows,(rows.length:Int),([]:List (List (Bool×(List Int×List Int)))),(rows.take i).map (fun r=>(a1u r).1.map (rp B10)),())) (F:=fun i=>some (if((rows.drop i).all fun r=>decide (r.length=rows.length)&&(b5z r).2)=true then(rows.map (fun r=>(a1u r).1.map (rp B10)),true)else([],false),())) (fun i g hi hg'=>by
  have e1:(i:Int)<(rows.length:Int):=by omega
  have e2:(0:Int)<=(i:Int):=by omega
  have hr:okT rows[i]=true:=List.all_eq_true.1 hc _ (List.getElem_mem hi);have e4:(((rows.take i).map (fun r=>(a1u r).1.map (rp B10))).length+1)*24<=140737488355328:=by
   rw[List.length_map,List.length_take];omega
  unfold P.b3r;dsimp only at hg' ⊢;simp only[e1,e2,decide_true,if_true];rw[a0m rows i _ hi,List.drop_eq_getElem_cons hi,List.all_cons]
  by_cases hl:rows[i].length=rows.length
  case neg=>
   rw[if_pos (by simp;omega),decide_eq_false hl,Bool.false_and,Bool.false_and,if_neg (by decide)]
  rw[if_neg (by simp;omega),decide_eq_true hl,Bool.true_and,d0q];have ew:S.b2o (rows[i],())=some (((a1u rows[i]).1.map (rp B10),(a1u rows[i]).2),()):=by
   unfold S.b2o;exact if_pos hr
  rw[ew,Option.bind_some];dsimp only;cases w1:(a1u rows[i]).2
  ·rw[if_pos (by decide),Bool.false_and,Bool.false_and,if_neg (by decide)]
  have eW:S.a4q ((a1u rows[i]).1.map (rp B10),())=some (isW (a1u rows[i]).1,()):=by
   unfold S.a4q;dsimp only;rw[if_pos (c2i w1),a5b a0e]
  rw[if_neg (by decide),eW,Option.bind_some,Bool.true_and];dsimp only;cases hw:isW (a1u rows[i]).1
  ·rw[if_pos (by decide),Bool.false_and,if_neg (by decide)]
  rw[if_neg (by decide),Bool.true_and];simp only[List.length_cons,List.length_nil,Nat.zero_add];rw[if_pos (decide_eq_true e4),wr (by omega) (by omega),<-hg',List.take_add_one,List.getElem?_eq_getElem hi,Option.toList_some,List.map_append];rfl) (fun g=>by
  unfold P.b3r;dsimp only;rw[if_neg (by simp),List.take_length,List.drop_length];rfl) (by omega)
 rw[List.drop_zero]at key;refine Eq.trans key ?_
 by_cases ha:(rows.all fun r=>decide (r.length=rows.length)&&(b5z r).2)=true
 ·rw[if_pos ha,if_pos ha,List.map_map];rfl
 ·rw[if_neg ha,if_neg ha];rfl
def P.c7j (k:Nat) (x:RB×RB×Unit):Option (RB×Unit):=
 (S.a1d (x.1.2.1,x.2.1.2.1,())).bind fun y0=>(S.a1d (x.1.2.2,x.2.1.2.2,())).bind fun y1=>(S.a6c (! (x.1.1==x.2.1.1),y0.1,y1.1,())).bind fun y2=>some ((y2.1.1,y2.1.2.1,y2.1.2.2),())
def S.a7o (x:(RB×(RB×Unit))):(Option (RB×Unit)):=if c1l B10 40000000 x.1=true/\c1l B10 40000000 x.2.1=true then some (rp B10 (b9a (rv B10 x.1) (rv B10 x.2.1)),())else none
theorem S.e1k (x r) (h:S.a7o x=some r):∃k,P.c7j k x=some r:=by
 obtain⟨x,y,u⟩:=x;unfold S.a7o at h;dsimp only at h;split at h
 case isFalse=>cases h
 rename_i hc;obtain⟨hx,hy⟩:=hc;cases h;rw[a5p]at hx hy;obtain⟨hx,lx⟩:=hx;obtain⟨hy,ly⟩:=hy;obtain⟨n1,p1,q1,rfl,x1,x2⟩:=a9q hx;obtain⟨n2,p2,q2,rfl,y1,y2⟩:=a9q hy;rw[b7t a0e]at lx ly ⊢;rw[b7t a0e];have hq1:0<q1:=lx.1;have hq2:0<q2:=ly.1;have m1:=a5a a0e p1 p2;have m2:=a5a a0e q1 q2;have mul:∀p q:Nat,(nd B10 p).length<=100000000->(nd B10 q).length<=100000000->S.a1d (nd B10 p,(nd B10 q,()))=some (nd B10 (p*q),()):=by
  intro p q hp hq;unfold S.a1d;dsimp only;rw[if_pos ⟨a4f a0e _,a4f a0e _,by omega,by omega⟩,a0i a0e,a0i a0e]
 refine⟨0,?_⟩;unfold P.c7j b9a;dsimp only;rw[mul p1 p2 (by omega) (by omega),Option.bind_some,mul q1 q2 (by omega) (by omega),Option.bind_some];unfold S.a6c;dsimp only;rw[if_pos ⟨a0j a0e _,a0j a0e _,f3p a0e (Nat.ne_of_gt (Nat.mul_pos hq1 hq2)),by omega,by omega⟩,Option.bind_some,a0i a0e,a0i a0e];rfl
theorem rs_mul {x y:Q3} {m n:Nat} (hx:low x) (bx:below m x) (hy:low y) (bY:below n y) (hm:m<=350000000) (hn:n<=350000000):S.a7o (rp B10 x,(rp B10 y,()))=some (rp B10 (b9a x y),()):=by
 unfold S.a7o;dsimp only;rw[if_pos ⟨a2t (by decide) hx bx (by omega),a2t (by decide) hy bY (by omega)⟩,a2p a0e,a2p a0e]
abbrev s_l03Step.A:=Int×Int×RB×List RB×List (List RB)×Int×List RB×Int×Int×Unit
abbrev s_l03Step.B:=Int×Int×List RB×List (List RB)×List RB×Unit
abbrev s_l03Step.C:=Option (List RB×Unit)
abbrev P.b2p (g2:s_l03Step.B->s_l03Step.C) (x5:s_l03Step.A) (g6:s_l03Step.A->s_l03Step.C):s_l03Step.C:=
 (fun(a b f i j:Int) (c:RB) (d h:List RB) (e:List (List RB))=>if decide (a<b)then if decide (0<=a)then if decide (a<(d.length:Int))then if decide (0<=a)then if decide (a<(e.length:Int))then if decide (0<=f)then if decide (f<(List.length (e.getD a.toNat []):Int))then(S.a7o (((d.getD a.toNat (false,[],[])).1,(d.getD a.toNat (false,[],[])).2.1,(d.getD a.toNat (false,[],[])).2.2),((List.getD (e.getD a.toNat []) f.toNat (false,[],[])).1,(List.getD (e.getD a.toNat []) f.toNat (false,[],[])).2.1,(List.getD (e.getD a.toNat []) f.toNat (false,[],[])).2.2),())).bind fun y7=>(S.a3x ((c.1,c.2.1,c.2.2),(y7.1.1,y7.1.2.1,y7.1.2.2),())).bind fun y8=>g6 (wrap .i64 (a+1),b,(y8.1.1,y8.1.2.1,y8.1.2.2),d,e,f,h,i,j,())else none else none else none else none else none else none else if decide (((h.length+(List.length [(c.1,c.2.1,c.2.2)]))*56)<=140737488355328)then g2 (wrap .i64 (i+1),j,d,e,h++[(c.1,c.2.1,c.2.2)],())else none) x5.1 x5.2.1 x5.2.2.2.2.2.1 x5.2.2.2.2.2.2.2.1 x5.2.2.2.2.2.2.2.2.1 x5.2.2.1 x5.2.2.2.1 x5.2.2.2.2.2.2.1 x5.2.2.2.2.1
abbrev P.b5w (k:Nat) (x1:s_l03Step.B) (g2:s_l03Step.B->s_l03Step.C):s_l03Step.C:=
 if decide (x1.1<x1.2.1)then(S.a7u ()).bind fun y3=>loopP (P.b2p g2) k (0,(x1.2.2.1.length:Int),(y3.1.1,y3.1.2.1,y3.1.2.2),x1.2.2.1,x1.2.2.2.1,x1.1,x1.2.2.2.2.1,x1.1,x1.2.1,())else some (x1.2.2.2.2.1,())
def P.d4c (k:Nat) (x:List (List RB)×List RB×Unit):s_l03Step.C:=
 loopP (P.b5w k) k (0,(x.2.1.length:Int),x.2.1,x.1,[],())
theorem mul_s {x y:Q3} (hx:low x) (bx:below 350000000 x) (hy:low y) (bY:below 350000000 y):S.a7o (((rp B10 x).1,(rp B10 x).2.1,(rp B10 x).2.2),((rp B10 y).1,(rp B10 y).2.1,(rp B10 y).2.2),())=some (rp B10 (b9a x y),()):=rs_mul hx bx hy bY (Nat.le_refl _) (Nat.le_refl _)
theorem add_s {x y:Q3} (hx:low x) (bx:below 350000000 x) (hy:low y) (bY:below 350000000 y):S.a3x (((rp B10 x).1,(rp B10 x).2.1,(rp B10 x).2.2),((rp B10 y).1,(rp B10 y).2.1,(rp B10 y).2.2),())=some (rp B10 (a9p x y),()):=rs_add hx bx hy bY (Nat.le_refl _) (Nat.le_refl _)
theorem row_rpS {B:Nat} {M:List (List Q3)} (h:isM M) {i j:Nat} (hi:i<M.length) (hj:j<M.length):List.getD ((mp B M).getD i []) j (false,(([]:List Int),([]:List Int)))=rp B (mq M i j):=by
 rw[e3p hi,c2k B (by rw[(b6a h hi).1];exact hj)];rfl
theorem row_lenS {B:Nat} {M:List (List Q3)} (h:isM M) {i:Nat} (hi:i<M.length):((mp B M).getD i []).length=M.length:=by
 rw[e3p hi,List.length_map,(b6a h hi).1]
def dpS (M:List (List Q3)) (w:List Q3) (i j:Nat):Q3:=d4g (fun i=>w.getD i a2c) (fun i=>mq M i j) i
theorem g1n {M:List (List Q3)} (h:b9b M) {w:List Q3} (hw:wOk M w 41) {i j:Nat} (hi:i<=M.length) (hj:j<M.length):low (dpS M w i j)/\below 350000000 (dpS M w i j):=by
 obtain⟨D,d1,d2⟩:=dot_ok h hw hj;have hl:=hw.1;have:=d2 i (by omega);have hp:=g0g (t:=41) (c:=350000000) (by decide);exact⟨this.1,c5c this hp (Nat.lt_of_le_of_lt d1 hp)⟩
theorem ws_below {M:List (List Q3)} {w:List Q3} (hw:wOk M w 41) {i:Nat} (hi:i<w.length):low (w.getD i a2c)/\below 2000000 (w.getD i a2c):=d3p hw (by decide) rfl (w.getD i a2c) (by
 rw[List.getD_eq_getElem?_getD,List.getElem?_eq_getElem hi];exact List.getElem_mem hi)
theorem g1o {M:List (List Q3)} (h:b9b M) {w:List Q3} (hw:wOk M w 41) {j:Nat} (hj:j<M.length) (out:List RB) (ho:out.length<=12) (g) {K:Nat} (hK:M.length<K):
  loopP (P.b2p g) K ((0:Int),(M.length:Int),rp B10 a2c,w.map (rp B10),mp B10 M,(j:Int),out,(j:Int),(M.length:Int),())=g (((j+1:Nat):Int),(M.length:Int),w.map (rp B10),mp B10 M,out++[rp B10 (dpS M w M.length j)],()):=by
 have hn:=h.2.1.1;have hl:=hw.1;have key:=a0g (k:=K) (b:=P.b2p g) (n:=M.length) (st:=fun i=>((i:Int),(M.length:Int),rp B10 (dpS M w i j),w.map (rp B10),mp B10 M,(j:Int),out,(j:Int),(M.length:Int),())) (F:=fun _=>g (((j+1:Nat):Int),(M.length:Int),w.map (rp B10),mp B10 M,out++[rp B10 (dpS M w M.length j)],())) (fun i g' hi hg=>by
  unfold P.b2p;dsimp only at hg ⊢;have e1:(i:Int)<(M.length:Int):=by omega
  have e2:(0:Int)<=(i:Int):=by omega
  have e3:(j:Int)<(M.length:Int):=by omega
  have e4:(0:Int)<=(j:Int):=by omega
  have e5:((w.map (rp B10)).length:Int)=(M.length:Int):=by rw[List.length_map,hl]
  have e6:((mp B10 M).length:Int)=(M.length:Int):=by rw[a8a]
  rw[Int.toNat_natCast,Int.toNat_natCast,c2k B10 (show i<w.length by omega),row_rpS h.2.1 hi hj,row_lenS h.2.1 hi,e5,e6];obtain⟨a1,a2⟩:=ws_below hw (show i<w.length by omega);have b:=c5e h hi hj;obtain⟨d1,d2⟩:=g1n h hw (show i<=M.length by omega) hj;rw[mul_s a1 (a7g (by decide) a2) b.1 (a7g (by decide) b.2.1),Option.bind_some,add_s d1 d2 (b5j _ _ a1 b.1) (a7g (by decide) (d6s a2 b.2.1)),Option.bind_some];simp only[e1,e2,e3,e4,decide_true,if_true];rw[wr (by omega) (by omega)];exact hg) (fun g'=>by
  unfold P.b2p;dsimp only;have e1:(out.length+1)*56<=140737488355328:=by omega
  rw[if_neg (by simp)];simp only[List.length_cons,List.length_nil,Nat.zero_add,e1,decide_true,if_true];rw[wr (by omega) (by omega)];rfl) hK
 exact key
open Classical in
def S.b7a (x:((List (List RB))×((List RB)×Unit))):(Option ((List RB)×Unit)):=if ∃(M:List (List Q3)) (w:List Q3),b9b M/\x.1=mp B10 M/\x.2.1=w.map (rp B10)/\wOk M w 41 then some ((d6a (mv B10 x.1) (x.2.1.map (rv B10))).map (rp B10),())else none
theorem S.e6x (x r) (h:S.b7a x=some r):∃k,P.d4c k x=some r:=by
 obtain⟨m,xs,u⟩:=x;unfold S.b7a at h;dsimp only at h;split at h
 case isFalse=>cases h
 rename_i hc;obtain⟨M,w,hM,rfl,rfl,hw⟩:=hc;cases h;rw[b6m (by decide),a5b a0e];have hn:=hM.2.1.1;have hl:=hw.1;refine⟨M.length+1,?_⟩;unfold P.d4c;dsimp only;rw[List.length_map,hl];have key:=a0g (k:=M.length+1) (b:=P.b5w (M.length+1)) (n:=M.length) (st:=fun j=>((j:Int),(M.length:Int),w.map (rp B10),mp B10 M,(tab j (dpS M w M.length)).map (rp B10),())) (F:=fun _=>some ((d6a M w).map (rp B10),())) (fun j g hj hg=>by
  unfold P.b5w;dsimp only at hg ⊢;have e1:(j:Int)<(M.length:Int):=by omega
  have ez:S.a7u ()=some (rp B10 a2c,()):=by rfl
  have e3:((w.map (rp B10)).length:Int)=(M.length:Int):=by rw[List.length_map,hl]
  rw[if_pos (decide_eq_true e1),ez,Option.bind_some,e3];refine(g1o hM hw hj _ (by rw[List.length_map,a1v];omega) g (Nat.lt_succ_self _)).trans ?_;rw[<-hg,c0w,List.map_append];rfl) (fun g=>by
  unfold P.b5w;dsimp only;rw[if_neg (by simp)];unfold d6a;rw[hl];rfl) (by omega)
 exact key
abbrev s_l03After.A:=Option ((List (List RB)×List RB×Bool)×Unit)
abbrev P.b3s (x5:Int×List RB×List (List RB)×List (List RB)×Unit) (g6:Int×List RB×List (List RB)×List (List RB)×Unit->s_l03After.A):s_l03After.A:=
 if decide (x5.1>0)then(S.b7a (x5.2.2.1,x5.2.1,())).bind fun y7=>g6 (wrap .i64 (x5.1 - 1),y7.1,x5.2.2.1,x5.2.2.2.1,())else some ((x5.2.2.1,x5.2.1,true),())
def P.c7k (k:Nat) (x:List (List ByteArray)×List ByteArray×Int×Unit):s_l03After.A:=
 (S.b6z (x.1,())).bind fun y0=>(S.b2o (x.2.1,())).bind fun y1=>if !y0.1.2 then some (([],[],false),())else if !y1.1.2 then some (([],[],false),())else if(y1.1.1.length:Int) != (y0.1.1.length:Int)then some (([],[],false),())else(S.a4q (y1.1.1,())).bind fun y2=>if !y2.1 then some (([],[],false),())else(S.e1d (x.2.2.1,0,40,())).bind fun y3=>if !y3.1 then some (([],[],false),())else loopP P.b3s k (x.2.2.1,y1.1.1,y0.1.1,[],())
def afT (u:List (List ByteArray)) (ws:List ByteArray) (s:Int):(List (List Q3)×List Q3)×Bool:=
 if(chQ u).2=true/\(b5z ws).2=true/\(a1u ws).1.length=u.length/\0<=s/\s<=40 then(((chQ u).1,a7q (chQ u).1 s.toNat (a1u ws).1),true)else(([],[]),false)
def S.b7b (x:((List (List ByteArray))×((List ByteArray)×(Int×Unit)))):(Option (((List (List RB))×((List RB)×Bool))×Unit)):=if x.1.all okT=true/\okT x.2.1=true then some ((mp B10 (afT x.1 x.2.1 x.2.2.1).1.1,((afT x.1 x.2.1 x.2.2.1).1.2.map (rp B10),(afT x.1 x.2.1 x.2.2.1).2)),())else none
theorem S.e1l (x r) (h:S.b7b x=some r):∃k,P.c7k k x=some r:=by
 obtain⟨u,ws,s,q⟩:=x;unfold S.b7b at h;dsimp only at h;split at h
 case isFalse=>cases h
 rename_i hc;obtain⟨ku,kw⟩:=hc;cases h;refine⟨s.toNat+1,?_⟩;unfold P.c7k S.b6z S.b2o;dsimp only;rw[if_pos ku,if_pos kw,Option.bind_some,Option.bind_some];dsimp only;unfold afT;cases hf:(chQ u).2
 ·rw[if_pos (by decide),if_neg (by simp)];rfl
 rw[if_neg (by decide)];obtain⟨hM,hu⟩:=f7x hf;rw[d0q];cases hg:(a1u ws).2
 ·rw[if_pos (by decide),if_neg (by simp)];rfl
 rw[if_neg (by decide),List.length_map,List.length_map,hu]
 by_cases hl:(a1u ws).1.length=u.length
 case neg=>
  rw[if_pos (by simp;omega),if_neg (fun q=>hl q.2.2.1)];rfl
 rw[if_neg (by simp [hl])];have ew:S.a4q ((a1u ws).1.map (rp B10),())=some (isW (a1u ws).1,()):=by
  unfold S.a4q;dsimp only;rw[if_pos (c2i hg),a5b a0e]
 rw[ew,Option.bind_some];dsimp only;cases hw:isW (a1u ws).1
 ·rw[if_pos (by decide),if_neg (by simp)];rfl
 rw[if_neg (by decide)];unfold S.e1d P.e1c;dsimp only
 by_cases h0:0<=s
 case neg=>
  have a:¬s>=0:=by omega
  simp only[a,decide_false,Bool.false_eq_true,if_false,Option.bind_some,Bool.not_false,if_true];rw[if_neg (by simp)];rfl
 by_cases h1:s<=40
 case neg=>
  have a:s>=0:=by omega
  simp only[a,h1,decide_true,decide_false,if_true,Option.bind_some,Bool.not_false];rw[if_neg (by simp)];rfl
 have a:s>=0:=h0;simp only[a,h1,decide_true,if_true,Option.bind_some,Bool.not_true,Bool.false_eq_true,if_false];rw[if_pos (by simp [hl])];obtain⟨s,rfl⟩:=Int.eq_ofNat_of_zero_le h0;have hst:=d3o hM (by rw[hl,hu]) (b7s hg).2.2 rfl;have key:=a0g (k:=s+1) (b:=P.b3s) (n:=s) (st:=fun i=>(((s - i:Nat):Int),(a7q (chQ u).1 i (a1u ws).1).map (rp B10),mp B10 (chQ u).1,([]:List (List RB)),())) (F:=fun _=>some ((mp B10 (chQ u).1,((a7q (chQ u).1 s (a1u ws).1).map (rp B10),true)),())) (fun i g hi hg'=>by
  unfold P.b3s;dsimp only at hg' ⊢;have e1:((s - i:Nat):Int)>0:=by omega
  have hk:wOk (chQ u).1 (a7q (chQ u).1 i (a1u ws).1) 41:=f2o (c5f hM i _ 0 hst) (by omega);have es:S.b7a (mp B10 (chQ u).1,(a7q (chQ u).1 i (a1u ws).1).map (rp B10),())=some ((a7q (chQ u).1 (i+1) (a1u ws).1).map (rp B10),()):=by
   unfold S.b7a;dsimp only;rw[if_pos ⟨_,_,hM,rfl,rfl,hk⟩,b6m (by decide),a5b a0e,c3a]
  rw[if_pos (decide_eq_true e1),es,Option.bind_some,wr (by omega) (by omega),show((s - i:Nat):Int) - 1=((s - (i+1):Nat):Int) by omega];exact hg') (fun g=>by
  unfold P.b3s;dsimp only;rw[if_neg (by simp)]) (by omega)
 exact key
abbrev P.b8t (x1:Int×List Int×Int×Unit) (g2:Int×List Int×Int×Unit->Option (Bool×Unit)):Option (Bool×Unit):=
 if decide (x1.1<(x1.2.1.length:Int))then if decide (0<=x1.1)then if decide (x1.1<(x1.2.1.length:Int))then if(x1.2.1.getD x1.1.toNat 0)==x1.2.2.1 then some (true,())else g2 (wrap .i64 (x1.1+1),x1.2.1,x1.2.2.1,())else none else none else some (false,())
def P.e1m (k:Nat) (x:List Int×Int×Unit):Option (Bool×Unit):=
 loopP P.b8t k (0,x.1,x.2.1,())
def S.b3t (x:((List Int)×(Int×Unit))):(Option (Bool×Unit)):=if x.1.length<=1000000 then some (decide (x.2.1∈x.1),())else none
theorem S.f0u (x r) (h:S.b3t x=some r):∃k,P.e1m k x=some r:=by
 obtain⟨xs,n,u⟩:=x;unfold S.b3t at h;dsimp only at h;split at h
 case isFalse=>cases h
 rename_i hc;cases h;refine⟨xs.length+1,?_⟩;unfold P.e1m;dsimp only;have key:=a0g (k:=xs.length+1) (b:=P.b8t) (n:=xs.length) (st:=fun i=>((i:Int),xs,n,())) (F:=fun i=>some (decide (n∈xs.drop i),())) (fun i g hi hg=>by
  unfold P.b8t;dsimp only at hg ⊢;have e1:(i:Int)<(xs.length:Int):=by omega
  have e2:(0:Int)<=(i:Int):=by omega
  simp only[e1,e2,decide_true,if_true];rw[a0m xs i _ hi,List.drop_eq_getElem_cons hi,wr (by omega) (by omega)]
  by_cases he:xs[i]=n
  ·rw[if_pos (by simp [he]),decide_eq_true (by rw[he];exact List.mem_cons_self ..)]
  ·rw[if_neg (by simp [he])];refine Eq.trans hg ?_;congr 2;rw[decide_eq_decide,List.mem_cons];exact⟨Or.inr,fun h=>h.resolve_left fun e=>he e.symm⟩) (fun g=>by
  unfold P.b8t;dsimp only;rw[if_neg (by simp),List.drop_length];rfl) (by omega)
 rw[List.drop_zero]at key;exact key
abbrev P.a5v (x1:Int×List Int×Bool×Int×List Int×Unit) (g2:Int×List Int×Bool×Int×List Int×Unit->Option (List Int×Unit)):Option (List Int×Unit):=
 (fun(a d:Int) (b e:List Int) (c:Bool)=>if decide (a<(b.length:Int))then if !c then if decide (0<=a)then if decide (a<(b.length:Int))then if decide ((b.getD a.toNat 0)>=d)then if decide (0<=a)then if decide (a<(b.length:Int))then if decide ((b.getD a.toNat 0)>d)then if decide (((e.length+(List.length [d]))*8)<=140737488355328)then if decide (0<=a)then if decide (a<(b.length:Int))then if decide ((((List.length (e++[d]))+(List.length [b.getD a.toNat 0]))*8)<=140737488355328)then g2 (wrap .i64 (a+1),b,true,d,(e++[d])++[b.getD a.toNat 0],())else none else none else none else none else if decide (0<=a)then if decide (a<(b.length:Int))then if decide (((e.length+(List.length [b.getD a.toNat 0]))*8)<=140737488355328)then g2 (wrap .i64 (a+1),b,true,d,e++[b.getD a.toNat 0],())else none else none else none else none else none else if decide (0<=a)then if decide (a<(b.length:Int))then if decide (((e.length+(List.length [b.getD a.toNat 0]))*8)<=140737488355328)then g2 (wrap .i64 (a+1),b,c,d,e++[b.getD a.toNat 0],())else none else none else none else none else none else if decide (0<=a)then if decide (a<(b.length:Int))then if decide (((e.length+(List.length [b.getD a.toNat 0]))*8)<=140737488355328)then g2 (wrap .i64 (a+1),b,c,d,e++[b.getD a.toNat 0],())else none else none else none else if !c then if decide (((e.length+(List.length [d]))*8)<=140737488355328)then some (e++[d],())else none else some (e,())) x1.1 x1.2.2.2.1 x1.2.1 x1.2.2.2.2.1 x1.2.2.1
def P.e1n (k:Nat) (x:List Int×Int×Unit):Option (List Int×Unit):=
 loopP P.a5v k (0,x.1,false,x.2.1,[],())
def S.c1j (x:((List Int)×(Int×Unit))):(Option ((List Int)×Unit)):=if x.1.length<=1000000 then some (g3n x.1 x.2.1,())else none
theorem S.f0v (x r) (h:S.c1j x=some r):∃k,P.e1n k x=some r:=by
 obtain⟨xs,n,u⟩:=x;unfold S.c1j at h;dsimp only at h;split at h
 case isFalse=>cases h
 rename_i hc;cases h;refine⟨xs.length+1,?_⟩;unfold P.e1n;dsimp only;have all:∀m i k out,i+m=xs.length->m<k->out.length<=i+1->loopP P.a5v k ((i:Int),xs,true,n,out,())=some (out++xs.drop i,()):=by
  intro m
  induction m with
  |zero=>
   intro i k out hi hk _;cases k with
   |zero=>omega
   |succ k=>
    rw[a0k];unfold P.a5v;dsimp only;rw[if_neg (by simp;omega),List.drop_of_length_le (by omega),List.append_nil];rfl
  |succ m ih=>
   intro i k out hi hk ho;cases k with
   |zero=>omega
   |succ k=>
    have hi':i<xs.length:=by omega
    have e1:(i:Int)<(xs.length:Int):=by omega
    have e2:(0:Int)<=(i:Int):=by omega
    have e3:(out.length+1)*8<=140737488355328:=by omega
    have:=ih (i+1) k (out++[xs[i]]) (by omega) (by omega) (by simp;omega);rw[a0k];generalize loopP P.a5v k=G at this ⊢;unfold P.a5v;dsimp only;simp only[e1,e2,e3,decide_true,if_true,Bool.not_true,Bool.false_eq_true,if_false,List.length_cons,List.length_nil,Nat.zero_add];rw[a0m xs i _ hi',wr (by omega) (by omega)];rw[List.drop_eq_getElem_cons hi'];rw[List.append_assoc]at this;exact this
 have key:∀m i k,i+m=xs.length->m<k->loopP P.a5v k ((i:Int),xs,false,n,xs.take i,())=some (xs.take i++g3n (xs.drop i) n,()):=by
  intro m
  induction m with
  |zero=>
   intro i k hi hk;cases k with
   |zero=>omega
   |succ k=>
    have e3:((xs.take i).length+1)*8<=140737488355328:=by rw[List.length_take];omega
    rw[a0k];unfold P.a5v;dsimp only;rw[if_neg (by simp;omega),if_pos (show(!false)=true from rfl),List.drop_of_length_le (by omega)];simp only[List.length_cons,List.length_nil,Nat.zero_add,e3,decide_true,if_true];rfl
  |succ m ih=>
   intro i k hi hk;cases k with
   |zero=>omega
   |succ k=>
    have hi':i<xs.length:=by omega
    have e1:(i:Int)<(xs.length:Int):=by omega
    have e2:(0:Int)<=(i:Int):=by omega
    have hl:(xs.take i).length=i:=by rw[List.length_take];omega
    have e3:(i+1)*8<=140737488355328:=by omega
    have e4:(i+1+1)*8<=140737488355328:=by omega
    have t1:=all m (i+1) k ((xs.take i++[n])++[xs[i]]) (by omega) (by omega) (by simp;omega);have t2:=all m (i+1) k (xs.take i++[xs[i]]) (by omega) (by omega) (by simp;omega);have t3:=ih (i+1) k (by omega) (by omega);rw[a0k];generalize loopP P.a5v k=G at t1 t2 t3 ⊢;unfold P.a5v;dsimp only;simp only[e1,e2,e3,e4,hl,decide_true,if_true,Bool.not_false,List.length_append,List.length_cons,List.length_nil,Nat.zero_add];rw[a0m xs i _ hi',wr (by omega) (by omega),List.drop_eq_getElem_cons hi',g3n]
    by_cases h1:n<=xs[i]
    ·rw[if_pos (decide_eq_true h1),if_pos h1]
     by_cases h2:n<xs[i]
     ·rw[if_pos (decide_eq_true h2),if_pos h2];refine Eq.trans t1 ?_;simp
     ·rw[if_neg (by simpa using h2),if_neg h2];refine Eq.trans t2 ?_;simp
    ·rw[if_neg (by simpa using h1),if_neg h1];rw[<-List.take_append_getElem hi',List.append_assoc]at t3;exact t3
 have:=key xs.length 0 (xs.length+1) (by omega) (by omega);simpa using this
def P.c0o (k:Nat) (x:RB×Unit):Option (Bool×Unit):=
 some ((x.1.2.1.length:Int)==0,())
def S.b0e (x:(RB×Unit)):(Option (Bool×Unit)):=P.c0o 0 x
theorem S.e6y (x r) (h:S.b0e x=some r):∃k,P.c0o k x=some r:=⟨0,h⟩
abbrev s_l03Reach.A:=Int×List Int×List (List RB)×List Int×Unit
abbrev s_l03Reach.B:=Option (List Int×Unit)
abbrev P.b0f (g2:s_l03Reach.A->s_l03Reach.B) (x4:Int×Int×List (List RB)×List Int×Int×List Int×Unit) (g5:Int×Int×List (List RB)×List Int×Int×List Int×Unit->s_l03Reach.B):s_l03Reach.B:=
 (fun(a b e:Int) (c:List (List RB)) (d f:List Int)=>if decide (a<b)then if decide (0<=e)then if decide (e<(d.length:Int))then if decide (0<=(d.getD (0+e.toNat) 0))then if decide ((d.getD (0+e.toNat) 0)<(c.length:Int))then if decide (0<=a)then if decide (a<(List.length (c.getD (Int.toNat (d.getD (0+e.toNat) 0)) []):Int))then(S.b0e (((List.getD (c.getD (Int.toNat (d.getD (0+e.toNat) 0)) []) a.toNat (false,[],[])).1,(List.getD (c.getD (Int.toNat (d.getD (0+e.toNat) 0)) []) a.toNat (false,[],[])).2.1,(List.getD (c.getD (Int.toNat (d.getD (0+e.toNat) 0)) []) a.toNat (false,[],[])).2.2),())).bind fun y6=>if !y6.1 then(S.b3t (f,a,())).bind fun y7=>if !y7.1 then(S.c1j (f,a,())).bind fun y8=>if decide (((d.length+(List.length [a]))*8)<=140737488355328)then g5 (wrap .i64 (a+1),b,c,d++[a],e,y8.1,())else none else g5 (wrap .i64 (a+1),b,c,d,e,f,())else g5 (wrap .i64 (a+1),b,c,d,e,f,())else none else none else none else none else none else none else g2 (wrap .i64 (e+1),d,c,f,())) x4.1 x4.2.1 x4.2.2.2.2.1 x4.2.2.1 x4.2.2.2.1 x4.2.2.2.2.2.1
abbrev P.b0g (k:Nat) (x1:s_l03Reach.A) (g2:s_l03Reach.A->s_l03Reach.B):s_l03Reach.B:=
 if decide (x1.1<(x1.2.1.length:Int))then loopP (P.b0f g2) k (0,(x1.2.2.1.length:Int),x1.2.2.1,x1.2.1,x1.1,x1.2.2.2.1,())else some (x1.2.2.2.1,())
def P.c7l (k:Nat) (x:List (List RB)×Int×Unit):s_l03Reach.B:=
 loopP (P.b0g k) k (0,[x.2.1],x.1,[x.2.1],())
theorem zero_rp (q:Q3):S.b0e (((rp B10 q).1,(rp B10 q).2.1,(rp B10 q).2.2),())=some (decide (q.2.1=0),()):=by
 unfold S.b0e P.c0o rp;dsimp only;congr 2;rw[Bool.eq_iff_iff,beq_iff_eq,decide_eq_true_iff,<-d0p (B:=B10) (by decide),<-List.length_eq_zero_iff];omega
theorem g1p {M:List (List Q3)} (hM:isM M) {i:Nat} (hi:i<M.length) (pre:List Nat) {sn:List Bool} {td:List Nat} (hb:Bok M.length (sn,td)) (hm:pre.length+td.length+sn.count false<=1000000)
  (g) {K:Nat} (hK:M.length<K):
  loopP (P.b0f g) K ((0:Int),(M.length:Int),mp B10 M,zs (pre++i::td),(pre.length:Int),a5w 0 sn,())=g (((pre.length+1:Nat):Int),zs (pre++i::(b4y (adj M i) M.length (sn,td)).2),mp B10 M,a5w 0 (b4y (adj M i) M.length (sn,td)).1,()):=by
 have hrow:=b6a hM hi;have hn:=hM.1;have key:=a0g (k:=K) (b:=P.b0f g) (n:=M.length) (st:=fun j=>((j:Int),(M.length:Int),mp B10 M,zs (pre++i::((List.range j).foldl (b0k (adj M i)) (sn,td)).2),(pre.length:Int),a5w 0 ((List.range j).foldl (b0k (adj M i)) (sn,td)).1,())) (F:=fun _=>g (((pre.length+1:Nat):Int),zs (pre++i::(b4y (adj M i) M.length (sn,td)).2),mp B10 M,a5w 0 (b4y (adj M i) M.length (sn,td)).1,())) (fun j g' hj hg=>by
  unfold P.b0f;dsimp only at hg ⊢;obtain⟨b1,b2⟩:=b7v (a:=adj M i) hb j (by omega);rw[b4h]at hg;generalize (List.range j).foldl (b0k (adj M i)) (sn,td)=s at b1 b2 hg ⊢;have b3:s.2.length<=td.length+sn.count false:=by
   dsimp only at b2;omega
  have e0:(zs (pre++i::s.2)).length=pre.length+s.2.length+1:=by simp [zs];omega
  have e1:(j:Int)<(M.length:Int):=by omega
  have e2:(0:Int)<=(j:Int):=by omega
  have e3:(zs (pre++i::s.2)).getD (0+Int.toNat (pre.length:Int)) 0=(i:Int):=by
   rw[d0y,Nat.zero_add,Int.toNat_natCast,List.getD_eq_getElem?_getD,List.getElem?_append_right (Nat.le_refl _)];simp
  have e4:(0:Int)<=(pre.length:Int):=by omega
  have e5:(pre.length:Int)<((pre.length+s.2.length+1:Nat):Int):=by omega
  have e6:(0:Int)<=(i:Int):=by omega
  have e7:(i:Int)<((mp B10 M).length:Int):=by rw[a8a];omega
  have e8:(pre.length+s.2.length+1+1)*8<=140737488355328:=by omega
  have e9:(((M.getD i []).map (rp B10)).length:Int)=(M.length:Int):=by rw[List.length_map,hrow.1]
  have pl:=c4f 0 s.1;have bl:s.1.length=M.length:=b1.len;have eh:S.b3t (a5w 0 s.1,(j:Int),())=some (s.1.getD j false,()):=by
   unfold S.b3t;dsimp only;have:=c9j 0 s.1 j;rw[Int.zero_add]at this;rw[if_pos (by omega),this]
  have ep:S.c1j (a5w 0 s.1,(j:Int),())=some (a5w 0 (s.1.set j true),()):=by
   unfold S.c1j;dsimp only;have:=d9a 0 s.1 j (by omega);rw[Int.zero_add]at this;rw[if_pos (by omega),this]
  rw[e0,e3,Int.toNat_natCast,e3p hi,Int.toNat_natCast,c2k B10 (by rw[hrow.1];exact hj),zero_rp,Option.bind_some];simp only[e1,e2,e4,e5,e6,e7,e8,e9,decide_true,if_true,List.length_cons,List.length_nil,Nat.zero_add];rw[eh,ep,wr (by omega) (by omega)];simp only[Option.bind_some];have ha':(!decide (((M.getD i []).getD j a2c).2.1=0))=adj M i j:=by
   unfold adj;simp
  rw[ha'];unfold b0k at hg;cases ha:adj M i j
  ·rw[ha,if_neg (by simp)]at hg;rw[if_neg (by decide)];exact hg
  ·rw[if_pos rfl];cases hs:s.1.getD j false
   ·rw[ha,hs,if_pos ⟨rfl,rfl⟩]at hg;rw[if_pos (by decide),<-hg];simp [zs]
   ·rw[ha,hs,if_neg (by simp)]at hg;rw[if_neg (by decide)];exact hg) (fun g'=>by
  unfold P.b0f;dsimp only;rw[if_neg (by simp),wr (by omega) (by omega)];rfl) hK
 exact key
theorem g1q {M:List (List Q3)} (hM:isM M) {K:Nat} (hK:M.length<K):∀(f k:Nat) (pre:List Nat) (sn:List Bool) (td:List Nat),Bok M.length (sn,td)->td.length+sn.count false<=f->f<k->pre.length+f<=1000000->loopP (P.b0g K) k ((pre.length:Int),zs (pre++td),mp B10 M,a5w 0 sn,())=some (a5w 0 (bfs (adj M) M.length f sn td),()):=by
 intro f
 induction f with
 |zero=>
  intro k pre sn td hb hm hk hf;cases k with
  |zero=>omega
  |succ k=>
   have:td=[]:=List.eq_nil_of_length_eq_zero (by omega);subst this;rw[a0k];unfold P.b0g;dsimp only;rw[if_neg (by simp [zs])];rfl
 |succ f ih=>
  intro k pre sn td hb hm hk hf;cases k with
  |zero=>omega
  |succ k=>
   rw[a0k];cases td with
   |nil=>
    unfold P.b0g;dsimp only;rw[if_neg (by simp [zs])];rfl
   |cons i r=>
    have hi:i<M.length:=hb.lt i (List.mem_cons_self ..);have hb':Bok M.length (sn,r):=⟨hb.len,fun t ht=>hb.lt t (List.mem_cons_of_mem _ ht)⟩
    have hm':r.length+sn.count false<=f:=by
     rw[List.length_cons]at hm;omega
    unfold P.b0g;dsimp only;rw[if_pos (decide_eq_true (by simp [zs];omega)),a8a,g1p hM hi pre hb' (by omega) _ hK,bfs];obtain⟨c1,c2⟩:=b7v (a:=adj M i) hb' M.length (Nat.le_refl _);have:=ih k (pre++[i]) _ _ c1 (by
     have:(b4y (adj M i) M.length (sn,r)).2.length+(b4y (adj M i) M.length (sn,r)).1.count false=r.length+sn.count false:=c2;exact Nat.le_trans (Nat.le_of_eq this) hm') (by omega) (by simp;omega)
    rw[List.append_assoc,List.length_append]at this;exact this
open Classical in
def S.b1k (x:((List (List RB))×(Int×Unit))):(Option ((List Int)×Unit)):=if(∃M,isM M/\x.1=mp B10 M)/\0<=x.2.1/\x.2.1<(x.1.length:Int)then some (a5w 0 (b3a (adj (mv B10 x.1)) x.1.length x.2.1.toNat),())else none
theorem S.e1o (x r) (h:S.b1k x=some r):∃k,P.c7l k x=some r:=by
 obtain⟨m,s,u⟩:=x;unfold S.b1k at h;dsimp only at h;split at h
 case isFalse=>cases h
 rename_i hc;obtain⟨⟨M,hM,rfl⟩,h0,h1⟩:=hc;cases h;obtain⟨s,rfl⟩:=Int.eq_ofNat_of_zero_le h0;rw[b6m (by decide),a8a]at*;have hs:s<M.length:=by omega
 have hn:=hM.1;refine⟨M.length+1,?_⟩;unfold P.c7l;dsimp only;obtain⟨c1,c2⟩:=c9i hs;have:=g1q hM (K:=M.length+1) (by omega) M.length (M.length+1) [] _ [s] c1 (by omega) (by omega) (by simp;omega);rw[f3t hs]at this;exact this
abbrev s_l03Classes.A:=Int×Int×List (List RB)×List Int×Int×List Int×Int×Bool×List Int×Int×Int×Unit
abbrev s_l03Classes.B:=Int×Int×List Int×List (List RB)×Int×List Int×Unit
abbrev s_l03Classes.C:=Option ((List Int×List Int)×Unit)
abbrev P.a7d (g5:s_l03Classes.B->s_l03Classes.C) (x8:s_l03Classes.A) (g9:s_l03Classes.A->s_l03Classes.C):s_l03Classes.C:=
 (fun(a b e h l m:Int) (c:List (List RB)) (d f j:List Int) (i:Bool)=>if decide (a<b)then if decide (0<=a)then if decide (a<(d.length:Int))then(S.b1k (c,d.getD a.toNat 0,())).bind fun y10=>(S.b3t (y10.1,e,())).bind fun y11=>if y11.1 then if decide (0<=a)then if decide (a<(d.length:Int))then if decide (0<=(d.getD a.toNat 0))then if decide ((d.getD a.toNat 0)<(f.length:Int))then g9 (wrap .i64 (a+1),b,c,d,e,f.set (0+(Int.toNat (d.getD a.toNat 0))) h,h,i,j,l,m,())else none else none else none else none else g9 (wrap .i64 (a+1),b,c,d,e,f,h,false,j,l,m,())else none else none else if i then if decide (((j.length+(List.length [h]))*8)<=140737488355328)then g5 (wrap .i64 (l+1),m,f,c,wrap .i64 (h+1),j++[h],())else none else g5 (wrap .i64 (l+1),m,f,c,wrap .i64 (h+1),j,())) x8.1 x8.2.1 x8.2.2.2.2.1 x8.2.2.2.2.2.2.1 x8.2.2.2.2.2.2.2.2.2.1 x8.2.2.2.2.2.2.2.2.2.2.1 x8.2.2.1 x8.2.2.2.1 x8.2.2.2.2.2.1 x8.2.2.2.2.2.2.2.2.1 x8.2.2.2.2.2.2.2.1
abbrev P.b0h (k:Nat) (x4:s_l03Classes.B) (g5:s_l03Classes.B->s_l03Classes.C):s_l03Classes.C:=
 (fun(a b e:Int) (c f:List Int) (d:List (List RB))=>if decide (a<b)then if decide (0<=a)then if decide (a<(c.length:Int))then if decide ((c.getD (0+a.toNat) 0)>=0)then g5 (wrap .i64 (a+1),b,c,d,e,f,())else(S.b1k (d,a,())).bind fun y6=>loopP (P.a7d g5) k (0,(y6.1.length:Int),d,y6.1,a,c,e,true,f,a,b,())else none else none else some ((c,f),())) x4.1 x4.2.1 x4.2.2.2.2.1 x4.2.2.1 x4.2.2.2.2.2.1 x4.2.2.2.1
abbrev P.b0i (k:Nat) (x1:Int×Int×List Int×List (List RB)×Unit) (g2:Int×Int×List Int×List (List RB)×Unit->s_l03Classes.C):s_l03Classes.C:=
 if decide (x1.1<x1.2.1)then if decide (0<=x1.1)then if decide (x1.1<(x1.2.2.1.length:Int))then g2 (wrap .i64 (x1.1+1),x1.2.1,x1.2.2.1.set (0+x1.1.toNat) (-1:Int),x1.2.2.2.1,())else none else none else loopP (P.b0h k) k (0,(x1.2.2.1.length:Int),x1.2.2.1,x1.2.2.2.1,0,[],())
def P.c0p (k:Nat) (x:List (List RB)×Unit):s_l03Classes.C:=
 if decide (0<=(x.1.length:Int))then if decide ((x.1.length:Int)<=(x.1.length:Int))then if decide (((x.1.length:Int)*8)<=281474976710656)then loopP (P.b0i k) k (0,(List.length (List.replicate (Int.toNat (x.1.length:Int)) (0:Int)):Int),List.replicate (Int.toNat (x.1.length:Int)) 0,x.1,())else none else none else none
theorem g1r {M:List (List Q3)} (hM:isM M) {i:Nat} (hi:i<M.length):S.b1k (mp B10 M,(i:Int),())=some (a5w 0 (b3a (adj M) M.length i),()):=by
 unfold S.b1k;dsimp only;rw[if_pos ⟨⟨M,hM,rfl⟩,by omega,by rw[a8a];omega⟩,b6m (by decide),a8a,Int.toNat_natCast]
theorem has_s {M:List (List Q3)} {i j:Nat} (hi:i<M.length) (hn:M.length<=12):S.b3t (a5w 0 (b3a (adj M) M.length i),(j:Int),())=some (rcB M i j,()):=by
 unfold S.b3t rcB;dsimp only;have h1:=c4f 0 (b3a (adj M) M.length i);rw[c6b hi]at h1;have h2:=c9j 0 (b3a (adj M) M.length i) j;rw[Int.zero_add]at h2;rw[if_pos (by omega),h2]
theorem reach_fl {M:List (List Q3)} {i:Nat} (hi:i<M.length):a5w 0 (b3a (adj M) M.length i)=zs (fl (rcB M i) M.length):=by
 have:=posF_fl 0 (b3a (adj M) M.length i);rw[c6b hi]at this;exact this
def upC (n:Nat) (f:Nat->Int) (c d:Nat->Bool) (k:Int) (a:Nat):List Int:=tab n fun v=>if(c v&&d v)=true/\ix c v<a then k else f v
theorem g1s {M:List (List Q3)} (hM:isM M) {i:Nat} (hi:i<M.length) (f:Nat->Int) (cl:List Bool) (hcl:cl.length<=12)
  (g) {K:Nat} (hK:M.length<K):
  loopP (P.a7d g) K ((0:Int),((a5w 0 (b3a (adj M) M.length i)).length:Int),mp B10 M,a5w 0 (b3a (adj M) M.length i),(i:Int),tab M.length f,(cl.length:Int),true,a5w 0 cl,(i:Int),(M.length:Int),())=g (((i+1:Nat):Int),(M.length:Int),tab M.length (fun j=>if(rcB M i j&&rcB M j i)=true then(cl.length:Int)else f j),mp B10 M,((cl.length+1:Nat):Int),a5w 0 (cl++[(List.range M.length).all fun j=> !rcB M i j||rcB M j i]),()):=by
 have hn:=hM.1;have hL:=reach_fl (M:=M) hi;have hl:(fl (rcB M i) M.length).length<=M.length:=by
  have:=List.length_filter_le (rcB M i) (List.range M.length);rw[List.length_range]at this;exact this
 rw[hL,c4h];have key:=a0g (k:=K) (b:=P.a7d g) (n:=(fl (rcB M i) M.length).length) (st:=fun a=>((a:Int),((fl (rcB M i) M.length).length:Int),mp B10 M,zs (fl (rcB M i) M.length),(i:Int),upC M.length f (rcB M i) (fun j=>rcB M j i) (cl.length:Int) a,(cl.length:Int),(List.range a).all (fun b=>rcB M ((fl (rcB M i) M.length).getD b 0) i),a5w 0 cl,(i:Int),(M.length:Int),())) (F:=fun _=>g (((i+1:Nat):Int),(M.length:Int),tab M.length (fun j=>if(rcB M i j&&rcB M j i)=true then(cl.length:Int)else f j),mp B10 M,((cl.length+1:Nat):Int),a5w 0 (cl++[(List.range M.length).all fun j=> !rcB M i j||rcB M j i]),())) (fun a g' ha hg=>by
  unfold P.a7d;dsimp only at hg ⊢;obtain⟨f1,f2⟩:=c4i ha;have f3:=f3u ha;have e1:(a:Int)<((fl (rcB M i) M.length).length:Int):=by omega
  have e2:(0:Int)<=(a:Int):=by omega
  have e3:(zs (fl (rcB M i) M.length)).getD a 0=(((fl (rcB M i) M.length).getD a 0:Nat):Int):=d0y _ _;rw[c4h,Int.toNat_natCast,e3];generalize hv:(fl (rcB M i) M.length).getD a 0=v at*;rw[g1r hM f1,Option.bind_some];dsimp only;rw[has_s f1 hn,Option.bind_some];have e4:(0:Int)<=(v:Int):=by omega
  have e5:(v:Int)<(M.length:Int):=by omega
  have e6:(upC M.length f (rcB M i) (fun j=>rcB M j i) (cl.length:Int) a).length=M.length:=a1v _ _;simp only[e1,e2,e4,e5,e6,decide_true,if_true,Int.toNat_natCast,Nat.zero_add];rw[wr (by omega) (by omega)];rw[f1w,hv]at hg;cases hr:rcB M v i
  ·have:upC M.length f (rcB M i) (fun j=>rcB M j i) (cl.length:Int) (a+1)=upC M.length f (rcB M i) (fun j=>rcB M j i) (cl.length:Int) a:=by
    unfold upC;apply a1p;intro w hw
    by_cases q:(rcB M i w&&rcB M w i)=true
    ·rw[Bool.and_eq_true]at q;have hne:ix (rcB M i) w≠a:=fun e=>by
      have:=(c6d hw q.1).2;rw[e,hv]at this;rw[<-this,hr]at q;cases q.2
     by_cases hlt:ix (rcB M i) w<a
     ·rw[if_pos ⟨by rw[Bool.and_eq_true];exact q,by omega⟩,if_pos ⟨by rw[Bool.and_eq_true];exact q,hlt⟩]
     ·rw[if_neg (fun r=>by omega),if_neg (fun r=>hlt r.2)]
    ·rw[if_neg (fun r=>q r.1),if_neg (fun r=>q r.1)]
   rw[this,hr,Bool.and_false]at hg;rw[if_neg (by decide)];exact hg
  ·have:(upC M.length f (rcB M i) (fun j=>rcB M j i) (cl.length:Int) a).set v (cl.length:Int)=upC M.length f (rcB M i) (fun j=>rcB M j i) (cl.length:Int) (a+1):=by
    unfold upC;rw[c2l];apply a1p;intro w hw
    by_cases e:w=v
    ·subst e;rw[if_pos rfl,if_pos ⟨by dsimp only;rw[f2,hr];rfl,by omega⟩]
    ·rw[if_neg e]
     by_cases q:(rcB M i w&&rcB M w i)=true
     ·have hne:ix (rcB M i) w≠a:=fun e'=>by
       rw[Bool.and_eq_true]at q;have:=(c6d hw q.1).2;rw[e',hv]at this;exact e this.symm
      by_cases hlt:ix (rcB M i) w<a
      ·rw[if_pos ⟨q,hlt⟩,if_pos ⟨q,by omega⟩]
      ·rw[if_neg (fun r=>hlt r.2),if_neg (fun r=>by omega)]
     ·rw[if_neg (fun r=>q r.1),if_neg (fun r=>q r.1)]
   rw[hr,Bool.and_true]at hg;rw[if_pos rfl,this];exact hg) (fun g'=>by
  unfold P.a7d;dsimp only;have hpl:=c4f 0 cl;have e1:((a5w 0 cl).length+1)*8<=140737488355328:=by omega
  have e2:upC M.length f (rcB M i) (fun j=>rcB M j i) (cl.length:Int) (fl (rcB M i) M.length).length=tab M.length fun j=>if(rcB M i j&&rcB M j i)=true then(cl.length:Int)else f j:=by
   unfold upC;apply a1p;intro w hw
   by_cases q:(rcB M i w&&rcB M w i)=true
   ·rw[if_pos ⟨q,(c6d hw (by rw[Bool.and_eq_true]at q;exact q.1)).1⟩,if_pos q]
   ·rw[if_neg (fun r=>q r.1),if_neg q]
  have e3:(List.range (fl (rcB M i) M.length).length).all (fun b=>rcB M ((fl (rcB M i) M.length).getD b 0) i)=(List.range M.length).all fun j=> !rcB M i j||rcB M j i:=by
   rw[Bool.eq_iff_iff,List.all_eq_true,List.all_eq_true];constructor
   ·intro h j hj;have hj':=List.mem_range.1 hj;cases hc:rcB M i j
    ·rfl
    ·obtain⟨q1,q2⟩:=c6d hj' hc;have:=h _ (List.mem_range.2 q1);rw[q2]at this;rw[this];rfl
   ·intro h b hb;obtain⟨q1,q2⟩:=c4i (List.mem_range.1 hb);have:=h _ (List.mem_range.2 q1);rw[q2]at this;simpa using this
  rw[if_neg (by simp),e2,e3,c4g,Int.zero_add];cases(List.range M.length).all fun j=> !rcB M i j||rcB M j i
  ·rw[if_neg (by decide),if_neg (by decide),List.append_nil,wr (by omega) (by omega),wr (by omega) (by omega)];rfl
  ·simp only[if_true,List.length_cons,List.length_nil,Nat.zero_add,e1,decide_true];rw[wr (by omega) (by omega),wr (by omega) (by omega)];rfl) (show(fl (rcB M i) M.length).length<K by omega)
 refine Eq.trans ?_ key;have:upC M.length f (rcB M i) (fun j=>rcB M j i) (cl.length:Int) 0=tab M.length f:=by
  unfold upC;apply a1p;intro w hw;rw[if_neg (fun r=>by omega)]
 rw[this];rfl
open Classical in
def S.a9d (x:((List (List RB))×Unit)):(Option (((List Int)×(List Int))×Unit)):=if ∃M,isM M/\x.1=mp B10 M then some (((b4x (mv B10 x.1)).1,a5w 0 (b4x (mv B10 x.1)).2),())else none
theorem S.d4d (x r) (h:S.a9d x=some r):∃k,P.c0p k x=some r:=by
 obtain⟨m,u⟩:=x;unfold S.a9d at h;dsimp only at h;split at h
 case isFalse=>cases h
 rename_i hc;obtain⟨M,hM,rfl⟩:=hc;cases h;rw[b6m (by decide)];have hn:=hM.1;refine⟨M.length+1,?_⟩;unfold P.c0p;dsimp only;have a1:(0:Int)<=(M.length:Int):=by omega
 have a2:(M.length:Int)*8<=281474976710656:=by omega
 rw[a8a];simp only[a1,a2,Int.le_refl,decide_true,if_true,Int.toNat_natCast,List.length_replicate];have key:=a0g (k:=M.length+1) (b:=P.b0h (M.length+1)) (n:=M.length) (st:=fun i=>((i:Int),(M.length:Int),((List.range i).foldl (a6v (rcB M) M.length) (List.replicate M.length (-1),[])).1,mp B10 M,((((List.range i).foldl (a6v (rcB M) M.length) (List.replicate M.length (-1),[])).2.length:Nat):Int),a5w 0 ((List.range i).foldl (a6v (rcB M) M.length) (List.replicate M.length (-1),[])).2,())) (F:=fun _=>some (((b4x M).1,a5w 0 (b4x M).2),())) (fun i g hi hg=>by
  unfold P.b0h;dsimp only at hg ⊢;obtain⟨l1,l2⟩:=c0x (rcB M) M.length i;rw[b4h]at hg;generalize (List.range i).foldl (a6v (rcB M) M.length) (List.replicate M.length (-1),[])=s at l1 l2 hg ⊢;have e1:(i:Int)<(M.length:Int):=by omega
  have e2:(0:Int)<=(i:Int):=by omega
  have e3:(i:Int)<(s.1.length:Int):=by omega
  have e4:s.1.getD i 0=s.1.getD i (-1):=by
   rw[List.getD_eq_getElem?_getD,List.getD_eq_getElem?_getD,List.getElem?_eq_getElem (by omega)];rfl
  simp only[e1,e2,e3,decide_true,if_true,Int.toNat_natCast,Nat.zero_add,e4];unfold a6v at hg
  by_cases h0:0<=s.1.getD i (-1)
  ·rw[if_pos h0]at hg;rw[if_pos (decide_eq_true h0),wr (by omega) (by omega)];exact hg
  ·rw[if_neg h0]at hg;rw[if_neg (by simpa using h0),g1r hM hi,Option.bind_some];have hs:s.1=tab M.length fun v=>s.1.getD v (-1):=by
    conv=>lhs;rw[f7y s.1 (-1),l1]
   rw[hs];refine Eq.trans (g1s hM hi (fun v=>s.1.getD v (-1)) s.2 (by omega) g (by omega)) ?_;rw[List.length_append]at hg;exact hg) (fun g=>by
  unfold P.b0h;dsimp only;rw[if_neg (by simp)];rfl) (by omega)
 have pre:=a0g (k:=M.length+1) (b:=P.b0i (M.length+1)) (n:=M.length) (st:=fun i=>((i:Int),(M.length:Int),List.replicate i (-1)++List.replicate (M.length - i) 0,mp B10 M,())) (F:=fun _=>some (((b4x M).1,a5w 0 (b4x M).2),())) (fun i g hi hg=>by
  unfold P.b0i;dsimp only at hg ⊢;have hlen:(List.replicate i (-1:Int)++List.replicate (M.length - i) 0).length=M.length:=by simp;omega
  have e1:(i:Int)<(M.length:Int):=by omega
  have e2:(0:Int)<=(i:Int):=by omega
  simp only[hlen,e1,e2,decide_true,if_true];rw[wr (by omega) (by omega),<-hg];have e3:M.length - i=(M.length - (i+1))+1:=by omega
  have e4:(0+(i:Int).toNat)=(List.replicate i (-1:Int)).length:=by rw[List.length_replicate];omega
  rw[e3,e4,b3c];congr 2;simp [List.replicate_succ']) (fun g=>by
  unfold P.b0i;dsimp only;rw[if_neg (by simp),Nat.sub_self,List.replicate_zero,List.append_nil,List.length_replicate];exact key) (by omega)
 exact pre
def P.c5i (k:Nat) (x:List (List RB×Nat)×Int×Int×Unit):Option (Unit×List (List RB×Nat)×Unit):=
 if decide (0<=x.2.1)then if decide (x.2.1<(List.length (hd0 x.1):Int))then if decide (0<=x.2.2.1)then if decide (x.2.2.1<(List.length (hd0 x.1):Int))then if decide (0<=x.2.1)then if decide (x.2.1<(List.length (hd0 x.1):Int))then if decide (0<=x.2.2.1)then if decide (x.2.2.1<(List.length (List.set (hd0 x.1) (0+x.2.1.toNat) ((List.getD (hd0 x.1) (0+x.2.2.1.toNat) (0,0)).1,(List.getD (hd0 x.1) (0+x.2.2.1.toNat) (0,0)).2)):Int))then if dup (List.map (fun(y0:Nat×Nat)=>y0.1) (List.set (List.set (hd0 x.1) (0+x.2.1.toNat) ((List.getD (hd0 x.1) (0+x.2.2.1.toNat) (0,0)).1,(List.getD (hd0 x.1) (0+x.2.2.1.toNat) (0,0)).2)) (0+x.2.2.1.toNat) ((List.getD (hd0 x.1) (0+x.2.1.toNat) (0,0)).1,(List.getD (hd0 x.1) (0+x.2.1.toNat) (0,0)).2)))then none else some ((),nrm (List.set (List.set (hd0 x.1) (0+x.2.1.toNat) ((List.getD (hd0 x.1) (0+x.2.2.1.toNat) (0,0)).1,(List.getD (hd0 x.1) (0+x.2.2.1.toNat) (0,0)).2)) (0+x.2.2.1.toNat) ((List.getD (hd0 x.1) (0+x.2.1.toNat) (0,0)).1,(List.getD (hd0 x.1) (0+x.2.1.toNat) (0,0)).2)) (in0 x.1),())else none else none else none else none else none else none else none else none
def S.b7c (x:((List ((List RB)×Nat))×(Int×(Int×Unit)))):(Option (Unit×((List ((List RB)×Nat))×Unit))):=P.c5i 0 x
theorem S.e6z (x r) (h:S.b7c x=some r):∃k,P.c5i k x=some r:=⟨0,h⟩
end Go.Cm
end
