import Derived.Test.YtdpljomfkoojnaaGreatDoorPlSharesOfRestd
set_option linter.unusedVariables false
set_option maxRecDepth 100000
noncomputable section
namespace Go.Cm
abbrev P.c3p (x2:Int×Int×List RB×RB×RB×Unit) (g3:Int×Int×List RB×RB×RB×Unit→Option (RB×List RB×Unit)):Option (RB×List RB×Unit):=
 (fun(a b:Int) (c:List RB) (d e:RB)=>if decide (a<b)then if decide ((0:Int)≤a)then if decide (a<(c.length:Int))then(S.a3l ((d.1,d.2.1,d.2.2),((c.getD ((0:Nat)+a.toNat) (false,([]:List Int),([]:List Int))).1,(c.getD ((0:Nat)+a.toNat) (false,([]:List Int),([]:List Int))).2.1,(c.getD ((0:Nat)+a.toNat) (false,([]:List Int),([]:List Int))).2.2),())).bind fun y4=>g3 (IntKind.wrap .i64 (a+(1:Int)),b,c,(y4.1.1,y4.1.2.1,y4.1.2.2),(e.1,e.2.1,e.2.2),())else none else none else some ((d.1,d.2.1,d.2.2),c,())) x2.1 x2.2.1 x2.2.2.1 x2.2.2.2.1 x2.2.2.2.2.1
def P.i_summ (k:Nat) (x:List RB×Unit):Option (RB×List RB×Unit):=
 (S.a5g ((0:Int),())).bind fun y0=>loopP P.c3p k ((0:Int),(x.1.length:Int),x.1,(y0.1.1,y0.1.2.1,y0.1.2.2),(false,([]:List Int),([]:List Int)),())
open Classical in
def S.i_summ (x:((List RB)×Unit)):(Option (RB×((List RB)×Unit))):=if goodS B32 x.1 then some (rp B32 (a8o (x.1.map (rv B32))),(x.1,()))else none
theorem i_summ_add (a b:Q3) (ha:c3z B32 40000000 (rp B32 a)=true) (hb:c3z B32 40000000 (rp B32 b)=true):S.a3l (rp B32 a,(rp B32 b,()))=some (rp B32 (b5o a b),()):=by
 unfold S.a3l;dsimp only;rw[if_pos ⟨ha,hb⟩,a5t a0e,a5t a0e]
theorem S.i_summ_ok (x r) (h:S.i_summ x=some r):∃k,P.i_summ k x=some r:=by
 obtain⟨xs,u⟩:=x;unfold S.i_summ at h;dsimp only at h;split at h
 case isFalse=>cases h
 rename_i hc;obtain⟨qs,rfl,hlen,hq,hg⟩:=hc;cases h;refine⟨qs.length+1,?_⟩;unfold P.i_summ;have hz:S.a5g (0,())=some (rp B32 a5u,()):=by rfl
 dsimp only;rw[hz,Option.bind_some,b2o a0e,List.length_map];have key:=a0h (k:=qs.length+1) (b:=P.c3p) (n:=qs.length) (st:=fun i=>((i:Int),(qs.length:Int),qs.map (rp B32),rp B32 (a8o (qs.take i)),(false,(([]:List Int),([]:List Int))),())) (F:=fun i=>some (rp B32 (a8o qs),(qs.map (rp B32),()))) (fun i g hi hg'=>by
  unfold P.c3p;dsimp only at hg' ⊢;have e1:(i:Int)<(qs.length:Int):=by omega
  have e2:(0:Int)≤(i:Int):=by omega
  have e3:(i:Int)<((qs.map (rp B32)).length:Int):=by rw[List.length_map];omega
  rw[if_pos (decide_eq_true e1),if_pos (decide_eq_true e2),if_pos (decide_eq_true e3),Nat.zero_add,a0o (qs.map (rp B32)) i _ (by rw[List.length_map];exact hi),List.getElem_map];have ea:=i_summ_add (a8o (qs.take i)) qs[i] (a4p (by decide) (hg i).1 (hg i).2 (by decide)) (a4p (by decide) (hq _ (List.getElem_mem hi)).1 (hq _ (List.getElem_mem hi)).2 (by decide));rw[d1t hi]at ea;show Option.bind (S.a3l (rp B32 (a8o (qs.take i)),(rp B32 qs[i],()))) _=_;rw[ea,Option.bind_some,wr (by omega) (by omega)];exact hg') (fun g=>by
  unfold P.c3p;dsimp only;rw[if_neg (by simp),List.take_length]) (by omega)
 exact key
abbrev i_restOf.A:=Int×Int×List (List RB×Nat)×Int×Int×Int×Int×RB×Unit
abbrev i_restOf.B:=Int×Int×RB×List RB×List (List RB×Nat)×Int×Unit
abbrev i_restOf.C:=Int×Int×List (List RB×Nat)×Int×RB×Unit
abbrev i_restOf.D:=Option (List RB×List (List RB×Nat)×Unit)
abbrev i_restOf.E:=Int×List (List RB×Nat)×List RB×Unit
abbrev P.b1w (g8:i_restOf.C→i_restOf.D) (x14:i_restOf.A) (g15:i_restOf.A→i_restOf.D):i_restOf.D:=
 (fun(a b d e f h:Int) (c:List (List RB×Nat)) (i:RB)=>if decide (a<b)then if decide ((0:Int)≤d)then if decide (d<(List.length (hd0 c):Int))then if decide ((0:Int)≤d)then if decide (d<(List.length (hd0 c):Int))then if decide ((0:Int)≤a)then if decide (a<(((List.getD (hd0 c) ((0:Nat)+d.toNat) (0,0)).2:Nat):Int))then if decide ((0:Int)≤d)then if decide (d<(List.length (hd0 c):Int))then if decide ((0:Int)≤e)then if decide (e<(((List.getD (hd0 c) ((0:Nat)+d.toNat) (0,0)).2:Nat):Int))then if decide ((0:Int)≤e)then if decide (e<(List.length (hd0 c):Int))then if decide ((0:Int)≤a)then if decide (a<(((List.getD (hd0 c) ((0:Nat)+e.toNat) (0,0)).2:Nat):Int))then(S.a5l (((List.getD (List.getD (in0 c) (List.getD (hd0 c) ((0:Nat)+d.toNat) (0,0)).1 ([]:List RB)) (0+e.toNat) (false,([]:List Int),([]:List Int))).1,(List.getD (List.getD (in0 c) (List.getD (hd0 c) ((0:Nat)+d.toNat) (0,0)).1 ([]:List RB)) (0+e.toNat) (false,([]:List Int),([]:List Int))).2.1,(List.getD (List.getD (in0 c) (List.getD (hd0 c) ((0:Nat)+d.toNat) (0,0)).1 ([]:List RB)) (0+e.toNat) (false,([]:List Int),([]:List Int))).2.2),((List.getD (List.getD (in0 c) (List.getD (hd0 c) ((0:Nat)+e.toNat) (0,0)).1 ([]:List RB)) (0+a.toNat) (false,([]:List Int),([]:List Int))).1,(List.getD (List.getD (in0 c) (List.getD (hd0 c) ((0:Nat)+e.toNat) (0,0)).1 ([]:List RB)) (0+a.toNat) (false,([]:List Int),([]:List Int))).2.1,(List.getD (List.getD (in0 c) (List.getD (hd0 c) ((0:Nat)+e.toNat) (0,0)).1 ([]:List RB)) (0+a.toNat) (false,([]:List Int),([]:List Int))).2.2),())).bind fun y16=>(S.a3l (((List.getD (List.getD (in0 c) (List.getD (hd0 c) ((0:Nat)+d.toNat) (0,0)).1 ([]:List RB)) (0+a.toNat) (false,([]:List Int),([]:List Int))).1,(List.getD (List.getD (in0 c) (List.getD (hd0 c) ((0:Nat)+d.toNat) (0,0)).1 ([]:List RB)) (0+a.toNat) (false,([]:List Int),([]:List Int))).2.1,(List.getD (List.getD (in0 c) (List.getD (hd0 c) ((0:Nat)+d.toNat) (0,0)).1 ([]:List RB)) (0+a.toNat) (false,([]:List Int),([]:List Int))).2.2),(y16.1.1,y16.1.2.1,y16.1.2.2),())).bind fun y17=>if decide ((0:Int)≤a)then if decide (a<(((List.getD (hd0 c) ((0:Nat)+d.toNat) (0,0)).2:Nat):Int))then if dup (List.map (fun(y18:Nat×Nat)=>y18.1) (hd0 c))then none else g15 (IntKind.wrap .i64 (a+(1:Int)),b,nrm (hd0 c) (List.set (in0 c) (List.getD (hd0 c) ((0:Nat)+d.toNat) (0,0)).1 (List.set (List.getD (in0 c) (List.getD (hd0 c) ((0:Nat)+d.toNat) (0,0)).1 ([]:List RB)) (0+a.toNat) (y17.1.1,y17.1.2.1,y17.1.2.2))),d,e,f,h,(i.1,i.2.1,i.2.2),())else none else none else none else none else none else none else none else none else none else none else none else none else none else none else none else none else if dup (List.map (fun(y19:Nat×Nat)=>y19.1) (hd0 c))then none else g8 (IntKind.wrap .i64 (f+(1:Int)),h,nrm (hd0 c) (in0 c),e,(i.1,i.2.1,i.2.2),())) x14.1 x14.2.1 x14.2.2.2.1 x14.2.2.2.2.1 x14.2.2.2.2.2.1 x14.2.2.2.2.2.2.1 x14.2.2.1 x14.2.2.2.2.2.2.2.1
abbrev P.b4j (k:Nat) (g3:Int×List (List RB×Nat)×Unit→i_restOf.D) (x7:i_restOf.C) (g8:i_restOf.C→i_restOf.D):i_restOf.D:=
 (fun(a b d:Int) (c:List (List RB×Nat)) (e:RB)=>if decide (a<b)then if decide ((0:Int)≤a)then if decide (a<(List.length (hd0 c):Int))then if decide ((0:Int)≤a)then if decide (a<(List.length (hd0 c):Int))then if decide ((0:Int)≤d)then if decide (d<(((List.getD (hd0 c) ((0:Nat)+a.toNat) (0,0)).2:Nat):Int))then(S.a4r (((List.getD (List.getD (in0 c) (List.getD (hd0 c) ((0:Nat)+a.toNat) (0,0)).1 ([]:List RB)) (0+d.toNat) (false,([]:List Int),([]:List Int))).1,(List.getD (List.getD (in0 c) (List.getD (hd0 c) ((0:Nat)+a.toNat) (0,0)).1 ([]:List RB)) (0+d.toNat) (false,([]:List Int),([]:List Int))).2.1,(List.getD (List.getD (in0 c) (List.getD (hd0 c) ((0:Nat)+a.toNat) (0,0)).1 ([]:List RB)) (0+d.toNat) (false,([]:List Int),([]:List Int))).2.2),(e.1,e.2.1,e.2.2),())).bind fun y9=>if decide ((0:Int)≤d)then if decide (d<(((List.getD (hd0 c) ((0:Nat)+a.toNat) (0,0)).2:Nat):Int))then if decide ((0:Int)≤a)then if decide (a<(List.length (hd0 c):Int))then if decide ((0:Int)≤d)then if decide (d<(((List.getD (hd0 c) ((0:Nat)+a.toNat) (0,0)).2:Nat):Int))then(S.a0t (((List.getD (List.getD (List.set (in0 c) (List.getD (hd0 c) ((0:Nat)+a.toNat) (0,0)).1 (List.set (List.getD (in0 c) (List.getD (hd0 c) ((0:Nat)+a.toNat) (0,0)).1 ([]:List RB)) (0+d.toNat) (y9.1.1,y9.1.2.1,y9.1.2.2))) (List.getD (hd0 c) ((0:Nat)+a.toNat) (0,0)).1 ([]:List RB)) (0+d.toNat) (false,([]:List Int),([]:List Int))).1,(List.getD (List.getD (List.set (in0 c) (List.getD (hd0 c) ((0:Nat)+a.toNat) (0,0)).1 (List.set (List.getD (in0 c) (List.getD (hd0 c) ((0:Nat)+a.toNat) (0,0)).1 ([]:List RB)) (0+d.toNat) (y9.1.1,y9.1.2.1,y9.1.2.2))) (List.getD (hd0 c) ((0:Nat)+a.toNat) (0,0)).1 ([]:List RB)) (0+d.toNat) (false,([]:List Int),([]:List Int))).2.1,(List.getD (List.getD (List.set (in0 c) (List.getD (hd0 c) ((0:Nat)+a.toNat) (0,0)).1 (List.set (List.getD (in0 c) (List.getD (hd0 c) ((0:Nat)+a.toNat) (0,0)).1 ([]:List RB)) (0+d.toNat) (y9.1.1,y9.1.2.1,y9.1.2.2))) (List.getD (hd0 c) ((0:Nat)+a.toNat) (0,0)).1 ([]:List RB)) (0+d.toNat) (false,([]:List Int),([]:List Int))).2.2),())).bind fun y10=>if y10.1==(0:Int)then if dup (List.map (fun(y11:Nat×Nat)=>y11.1) (hd0 c))then none else g8 (IntKind.wrap .i64 (a+(1:Int)),b,nrm (hd0 c) (List.set (in0 c) (List.getD (hd0 c) ((0:Nat)+a.toNat) (0,0)).1 (List.set (List.getD (in0 c) (List.getD (hd0 c) ((0:Nat)+a.toNat) (0,0)).1 ([]:List RB)) (0+d.toNat) (y9.1.1,y9.1.2.1,y9.1.2.2))),d,(e.1,e.2.1,e.2.2),())else if dup (List.map (fun(y12:Nat×Nat)=>y12.1) (hd0 c))then none else loopP (P.b1w g8) k ((0:Int),d,nrm (hd0 c) (List.set (in0 c) (List.getD (hd0 c) ((0:Nat)+a.toNat) (0,0)).1 (List.set (List.getD (in0 c) (List.getD (hd0 c) ((0:Nat)+a.toNat) (0,0)).1 ([]:List RB)) (0+d.toNat) (y9.1.1,y9.1.2.1,y9.1.2.2))),a,d,a,b,(e.1,e.2.1,e.2.2),())else none else none else none else none else none else none else none else none else none else none else none else none else if dup (List.map (fun(y20:Nat×Nat)=>y20.1) (hd0 c))then none else g3 (IntKind.wrap .i64 (d - (1:Int)),nrm (hd0 c) (in0 c),())) x7.1 x7.2.1 x7.2.2.2.1 x7.2.2.1 x7.2.2.2.2.1
abbrev P.b1x (g25:i_restOf.E→i_restOf.D) (x29:i_restOf.B) (g30:i_restOf.B→i_restOf.D):i_restOf.D:=
 (fun(a b f:Int) (c:RB) (d:List RB) (e:List (List RB×Nat))=>if decide (a<b)then if decide ((0:Int)≤a)then if decide (a<(d.length:Int))then if decide ((0:Int)≤a)then if decide (a<(List.length (hd0 e):Int))then if decide ((0:Int)≤f)then if decide (f<(((List.getD (hd0 e) ((0:Nat)+a.toNat) (0,0)).2:Nat):Int))then(S.a5l (((d.getD ((0:Nat)+a.toNat) (false,([]:List Int),([]:List Int))).1,(d.getD ((0:Nat)+a.toNat) (false,([]:List Int),([]:List Int))).2.1,(d.getD ((0:Nat)+a.toNat) (false,([]:List Int),([]:List Int))).2.2),((List.getD (List.getD (in0 e) (List.getD (hd0 e) ((0:Nat)+a.toNat) (0,0)).1 ([]:List RB)) (0+f.toNat) (false,([]:List Int),([]:List Int))).1,(List.getD (List.getD (in0 e) (List.getD (hd0 e) ((0:Nat)+a.toNat) (0,0)).1 ([]:List RB)) (0+f.toNat) (false,([]:List Int),([]:List Int))).2.1,(List.getD (List.getD (in0 e) (List.getD (hd0 e) ((0:Nat)+a.toNat) (0,0)).1 ([]:List RB)) (0+f.toNat) (false,([]:List Int),([]:List Int))).2.2),())).bind fun y31=>(S.a3l ((c.1,c.2.1,c.2.2),(y31.1.1,y31.1.2.1,y31.1.2.2),())).bind fun y32=>if dup (List.map (fun(y33:Nat×Nat)=>y33.1) (hd0 e))then none else g30 (IntKind.wrap .i64 (a+(1:Int)),b,(y32.1.1,y32.1.2.1,y32.1.2.2),d,nrm (hd0 e) (in0 e),f,())else none else none else none else none else none else none else if decide (((d.length+(List.length [(c.1,c.2.1,c.2.2)]))*(56:Nat))≤(140737488355328:Nat))then if dup (List.map (fun(y34:Nat×Nat)=>y34.1) (hd0 e))then none else g25 (IntKind.wrap .i64 (f+(1:Int)),nrm (hd0 e) (in0 e),d++[(c.1,c.2.1,c.2.2)],())else none) x29.1 x29.2.1 x29.2.2.2.2.2.1 x29.2.2.1 x29.2.2.2.1 x29.2.2.2.2.1
abbrev P.a8q (k:Nat) (x24:i_restOf.E) (g25:i_restOf.E→i_restOf.D):i_restOf.D:=
 if decide (x24.1<(List.length (hd0 x24.2.1):Int))then(S.a5g ((0:Int),())).bind fun y26=>if dup (List.map (fun(y27:Nat×Nat)=>y27.1) (hd0 x24.2.1))then none else loopP (P.b1x g25) k ((0:Int),x24.1,(y26.1.1,y26.1.2.1,y26.1.2.2),x24.2.2.1,nrm (hd0 x24.2.1) (in0 x24.2.1),x24.1,())else(S.i_summ (x24.2.2.1,())).bind fun y35=>(S.b7c (splice x24.2.2.1 y35.2.1 (0:Nat),(y35.1.1,y35.1.2.1,y35.1.2.2),())).bind fun y36=>if dup (List.map (fun(y37:Nat×Nat)=>y37.1) (hd0 x24.2.1))then none else some (y36.1,nrm (hd0 x24.2.1) (in0 x24.2.1),())
abbrev P.b4k (k:Nat) (x2:Int×List (List RB×Nat)×Unit) (g3:Int×List (List RB×Nat)×Unit→i_restOf.D):i_restOf.D:=
 (fun(a:Int) (b:List (List RB×Nat))=>if decide (a>(0:Int))then if decide ((0:Int)≤a)then if decide (a<(List.length (hd0 b):Int))then if decide ((0:Int)≤a)then if decide ((a+((0:Nat):Int))≤(List.length (List.getD (in0 b) (List.getD (hd0 b) ((0:Nat)+a.toNat) (0,0)).1 ([]:List RB)):Int))then if decide ((0:Int)≤a)then(S.i_summ (seen (List.getD (in0 b) (List.getD (hd0 b) ((0:Nat)+a.toNat) (0,0)).1 ([]:List RB)) (0+(0:Nat)) (a.toNat - (0:Nat)),())).bind fun y4=>if dup (List.map (fun(y5:Nat×Nat)=>y5.1) (hd0 b))then none else loopP (P.b4j k g3) k ((0:Int),a,nrm (hd0 b) (List.set (in0 b) (List.getD (hd0 b) ((0:Nat)+a.toNat) (0,0)).1 (splice (List.getD (in0 b) (List.getD (hd0 b) ((0:Nat)+a.toNat) (0,0)).1 ([]:List RB)) y4.2.1 (0+(0:Nat)))),a,(y4.1.1,y4.1.2.1,y4.1.2.2),())else none else none else none else none else none else(S.a5g ((1:Int),())).bind fun y21=>if dup (List.map (fun(y22:Nat×Nat)=>y22.1) (hd0 b))then none else loopP (P.a8q k) k ((1:Int),nrm (hd0 b) (in0 b),[(y21.1.1,y21.1.2.1,y21.1.2.2)],())) x2.1 x2.2.1
def P.i_restOf (k:Nat) (x:List (List RB×Nat)×Unit):i_restOf.D:=
 if dup (List.map (fun(y0:Nat×Nat)=>y0.1) (hd0 x.1))then none else loopP (P.b4k k) k (IntKind.wrap .i64 ((List.length (hd0 x.1):Int) - (1:Int)),nrm (hd0 x.1) (in0 x.1),())
theorem c0f {q:Q3} (h:okq q):c3z B32 40000000 (rp B32 q)=true:=a4p (by decide) h.1 h.2 (by decide)
def midM (a:Nat→Nat→Q3) (k i j:Nat):Nat→Nat→Q3:=fun x y=>if x<i∨(x=i∧(y=k∨y<j))then gS a k x y else a x y
theorem mulo_i {a b:Q3} (ha:okq a) (hb:okq b):S.a5l (((rp B32 a).1,(rp B32 a).2.1,(rp B32 a).2.2),((rp B32 b).1,(rp B32 b).2.1,(rp B32 b).2.2),())=some (rp B32 (c3y a b),()):=by
 show S.a5l (rp B32 a,rp B32 b,())=_;unfold S.a5l;dsimp only;rw[if_pos ⟨c0f ha,c0f hb⟩,a5t a0e,a5t a0e]
theorem addo_i {a b:Q3} (ha:okq a) (hb:okq b):S.a3l (((rp B32 a).1,(rp B32 a).2.1,(rp B32 a).2.2),((rp B32 b).1,(rp B32 b).2.1,(rp B32 b).2.2),())=some (rp B32 (b5o a b),()):=by
 show S.a3l (rp B32 a,rp B32 b,())=_;unfold S.a3l;dsimp only;rw[if_pos ⟨c0f ha,c0f hb⟩,a5t a0e,a5t a0e]
theorem overo_i {a b:Q3} (ha:okq a) (hb:okq b) (h0:b.2.1≠0):S.a4r (((rp B32 a).1,(rp B32 a).2.1,(rp B32 a).2.2),((rp B32 b).1,(rp B32 b).2.1,(rp B32 b).2.2),())=some (rp B32 (a2r a b),()):=by
 show S.a4r (rp B32 a,rp B32 b,())=_;unfold S.a4r;dsimp only;rw[if_pos ⟨c0f ha,c0f hb,by rw[a5t a0e];exact h0⟩,a5t a0e,a5t a0e]
theorem iro_inner {a:Nat→Nat→Q3} {n k:Nat} (h:rOk a n k) {i:Nat} (hi:i<k) (hf:(a2r (a i k) (b4q a k)).2.1≠0) (out:Bool×(List Int×List Int)) (g) {K:Nat} (hK:n<K):
  loopP (P.b1w g) K ((0:Int),(k:Int),om B32 n n (midM a k i 0),(i:Int),(k:Int),(i:Int),(k:Int),out,())=g (((i+1:Nat):Int),(k:Int),om B32 n n (midM a k i k),(k:Int),out,()):=by
 obtain⟨kn,n12,hnum,hF,hO,hP,hM⟩:=h;have key:=a0h (k:=K) (b:=P.b1w g) (n:=k) (st:=fun j=>((j:Int),(k:Int),om B32 n n (midM a k i j),(i:Int),(k:Int),(i:Int),(k:Int),out,())) (F:=fun _=>g (((i+1:Nat):Int),(k:Int),om B32 n n (midM a k i k),(k:Int),out,())) (fun j g' hj hg=>by
  unfold P.b1w;dsimp only at hg ⊢;have e1:(j:Int)<(k:Int):=by omega
  have e2:(0:Int)≤(j:Int):=by omega
  have e3:(0:Int)≤(i:Int):=by omega
  have e4:(i:Int)<(n:Int):=by omega
  have e5:(0:Int)≤(k:Int):=by omega
  have e6:(k:Int)<(n:Int):=by omega
  have e7:(j:Int)<(n:Int):=by omega
  have v1:midM a k i j i k=a2r (a i k) (b4q a k):=by
   unfold midM gS;rw[if_pos (Or.inr ⟨rfl,Or.inl rfl⟩),if_pos hi,if_pos rfl]
  have v2:midM a k i j k j=a k j:=by
   unfold midM;rw[if_neg (by omega)]
  have v3:midM a k i j i j=a i j:=by
   unfold midM;rw[if_neg (by omega)]
  have v4:gS a k i j=b5o (a i j) (c3y (a2r (a i k) (b4q a k)) (a k j)):=by
   unfold gS;rw[if_pos hi,if_neg (by omega),if_pos ⟨hj,hf⟩]
  have v5:updM (midM a k i j) i j (b5o (a i j) (c3y (a2r (a i k) (b4q a k)) (a k j)))=midM a k i (j+1):=by
   funext x y;unfold updM
   by_cases q:x=i∧y=j
   ·rw[if_pos q,q.1,q.2];unfold midM;rw[if_pos (Or.inr ⟨rfl,Or.inr (by omega)⟩),v4]
   ·rw[if_neg q];unfold midM
    by_cases w:x<i∨(x=i∧(y=k∨y<j))
    ·rw[if_pos w,if_pos (by omega)]
    ·rw[if_neg w,if_neg (by omega)]
  simp only[a0q,a4n,Int.toNat_natCast,Nat.zero_add,c0p (show i<n by omega),c0p kn,c3u (show i<n by omega),c3u kn,b6l kn,b6l (show j<n by omega),a1p,e1,e2,e3,e4,e5,e6,e7,decide_true,if_true,Bool.false_eq_true,if_false,v1,v2,v3];rw[mulo_i (hF i hi) (hnum k (Nat.le_refl _) j (by omega)),Option.bind_some];dsimp only;rw[addo_i (hnum i (by omega) j (by omega)) (hM i hi j hj),Option.bind_some];dsimp only;rw[wr (by omega) (by omega),show((rp B32 (b5o (a i j) (c3y (a2r (a i k) (b4q a k)) (a k j)))).1,(rp B32 (b5o (a i j) (c3y (a2r (a i k) (b4q a k)) (a k j)))).2.1,(rp B32 (b5o (a i j) (c3y (a2r (a i k) (b4q a k)) (a k j)))).2.2)=rp B32 (b5o (a i j) (c3y (a2r (a i k) (b4q a k)) (a k j)))from rfl,om_write (show i<n by omega),v5];exact hg) (fun g'=>by
  unfold P.b1w;dsimp only;rw[if_neg (by simp),a1p,a1z,wr (by omega) (by omega)];rfl) (by omega)
 exact key
theorem signo_rp (q:Q3):S.a0t (((rp B32 q).1,(rp B32 q).2.1,(rp B32 q).2.2),())=some (sgnQ q.1 q.2.1,()):=by
 unfold S.a0t rp;dsimp only;rw[if_pos (a0l (by decide) _),a0j (by decide)]
def c3q (a:Nat→Nat→Q3) (k i:Nat):Nat→Nat→Q3:=fun x y=>if x<i then gS a k x y else a x y
theorem set_at {α:Type} {xs:List α} {i:Nat} (h:i<xs.length) (v d:α):(xs.set i v).getD i d=v:=by
 rw[List.getD_eq_getElem?_getD,List.getElem?_eq_getElem (by rw[List.length_set];exact h)];simp
theorem iro_mid {a:Nat→Nat→Q3} {n k:Nat} (h:rOk a n k) (g) {K:Nat} (hK:n<K):
  loopP (P.b4j K g) K ((0:Int),(k:Int),om B32 n n (c3q a k 0),(k:Int),rp B32 (b4q a k),())=g ((k:Int) - 1,om B32 n n (gS a k),()):=by
 have h':=h;obtain⟨kn,n12,hnum,hF,hO,hP,hM⟩:=h;have key:=a0h (k:=K) (b:=P.b4j K g) (n:=k) (st:=fun i=>((i:Int),(k:Int),om B32 n n (c3q a k i),(k:Int),rp B32 (b4q a k),())) (F:=fun _=>g ((k:Int) - 1,om B32 n n (gS a k),())) (fun i g' hi hg=>by
  unfold P.b4j;dsimp only at hg ⊢;have e1:(i:Int)<(k:Int):=by omega
  have e3:(0:Int)≤(i:Int):=by omega
  have e4:(i:Int)<(n:Int):=by omega
  have e5:(0:Int)≤(k:Int):=by omega
  have e6:(k:Int)<(n:Int):=by omega
  have v1:c3q a k i i k=a i k:=by
   unfold c3q;rw[if_neg (by omega)]
  have v5:updM (c3q a k i) i k (a2r (a i k) (b4q a k))=midM a k i 0:=by
   funext x y;unfold updM
   by_cases q:x=i∧y=k
   ·rw[if_pos q,q.1,q.2];unfold midM gS;rw[if_pos (Or.inr ⟨rfl,Or.inl rfl⟩),if_pos hi,if_pos rfl]
   ·rw[if_neg q];unfold midM c3q
    by_cases w:x<i
    ·rw[if_pos w,if_pos (Or.inl w)]
    ·rw[if_neg w,if_neg (by omega)]
  simp only[a0q,a4n,Int.toNat_natCast,Nat.zero_add,c0p (show i<n by omega),c3u (show i<n by omega),b6l kn,a1p,e1,e3,e4,e5,e6,decide_true,if_true,Bool.false_eq_true,if_false,v1];rw[overo_i (hnum i (by omega) k (Nat.le_refl _)) hO.1 hO.2,Option.bind_some];dsimp only;have w1:∀v:List (Bool×(List Int×List Int)),((in0 (om B32 n n (c3q a k i))).set i v).getD i []=v:=fun v=>set_at (by rw[b9w,a4n];omega) _ _
  have w2:∀v d:Bool×(List Int×List Int),(((tab n (c3q a k i i)).map (rp B32)).set k v).getD k d=v:=fun v d=>set_at (by rw[List.length_map,a2c];omega) _ _
  rw[show((rp B32 (a2r (a i k) (b4q a k))).1,(rp B32 (a2r (a i k) (b4q a k))).2.1,(rp B32 (a2r (a i k) (b4q a k))).2.2)=rp B32 (a2r (a i k) (b4q a k))from rfl];simp only[w1,w2];rw[signo_rp,Option.bind_some];dsimp only;rw[om_write (show i<n by omega),v5,wr (x:=(i:Int)+1) (by omega) (by omega)]
  by_cases hf:(a2r (a i k) (b4q a k)).2.1=0
  ·rw[if_pos (by rw[beq_iff_eq,a7j];exact hf),←hg];have:om B32 n n (midM a k i 0)=om B32 n n (c3q a k (i+1)):=b7w fun x hx y hy=>by
    unfold midM c3q
    by_cases w:x<i
    ·rw[if_pos (Or.inl w),if_pos (by omega)]
    ·by_cases w2:x=i
     ·subst w2
      by_cases w3:y=k
      ·rw[if_pos (Or.inr ⟨rfl,Or.inl w3⟩),if_pos (by omega)]
      ·rw[if_neg (by omega),if_pos (by omega)];unfold gS;rw[if_pos hi,if_neg w3,if_neg (fun q=>q.2 hf)]
     ·rw[if_neg (by omega),if_neg (by omega)]
   rw[this];rfl
  ·rw[if_neg (by rw[beq_iff_eq,a7j];exact hf),iro_inner h' hi hf _ _ hK,←hg];have:om B32 n n (midM a k i k)=om B32 n n (c3q a k (i+1)):=b7w fun x hx y hy=>by
    unfold midM c3q
    by_cases w:x<i
    ·rw[if_pos (Or.inl w),if_pos (by omega)]
    ·by_cases w2:x=i
     ·subst w2
      by_cases w3:y=k∨y<k
      ·rw[if_pos (Or.inr ⟨rfl,w3⟩),if_pos (by omega)]
      ·rw[if_neg (by omega),if_pos (by omega)];unfold gS;rw[if_pos hi,if_neg (by omega),if_neg (by omega)]
     ·rw[if_neg (by omega),if_neg (by omega)]
   rw[this]) (fun g'=>by
  unfold P.b4j;dsimp only;rw[if_neg (by simp),a1p,a1z,wr (by omega) (by omega),if_neg (by decide)];have:om B32 n n (c3q a k k)=om B32 n n (gS a k):=b7w fun x hx y hy=>by
   unfold c3q;split
   ·rfl
   ·unfold gS;rw[if_neg (by assumption)]
  rw[this]) (by omega)
 exact key
theorem summ_i {f:Nat→Q3} {k:Nat} (hk:k≤12) (h:∀j,j<k→okq (f j)) (hs:∀j,j≤k→okq (a8o (tab j f))):S.i_summ ((tab k f).map (rp B32),())=some (rp B32 (a8o (tab k f)),((tab k f).map (rp B32),())):=by
 unfold S.i_summ;dsimp only
 rw[if_pos ⟨tab k f,rfl,by rw[a2c];omega,fun q hq=>by
  obtain⟨j,hj,rfl⟩:=b9j.1 hq;exact h j hj,fun j=>by
  rw[tab_take];exact hs _ (Nat.min_le_right ..)⟩,b2o a0e]
theorem iro_red {a:Nat→Nat→Q3} {n:Nat} (hr:∀k,0<k→k<n→rOk (gM n a (n - 1 - k)) n k) {K:Nat} (hK:n<K):∀(k F:Nat),k<n→k<F→
  loopP (P.b4k K) F ((k:Int),om B32 n n (gM n a (n - 1 - k)),())=loopP (P.a8q K) K ((1:Int),om B32 n n (gM n a (n - 1)),[rp B32 c3c],()):=by
 intro k
 induction k with
 |zero=>
  intro F hk hF;obtain⟨F,rfl⟩:∃j,F=j+1:=⟨F - 1,by omega⟩
  rw[a0k];unfold P.b4k;dsimp only;have hz:S.a5g (1,())=some (rp B32 c3c,()):=by rfl
  rw[if_neg (by simp),hz,Option.bind_some,a1p,a1z,if_neg (by decide)];rfl
 |succ k ih=>
  intro F hk hF;obtain⟨F,rfl⟩:∃j,F=j+1:=⟨F - 1,by omega⟩
  rw[a0k];have h:=hr (k+1) (by omega) hk;have ih':=ih F (by omega) (by omega);have e0:n - 1 - k=(n - 1 - (k+1))+1:=by omega
  rw[e0]at ih';have e00:gM n a ((n - 1 - (k+1))+1)=gS (gM n a (n - 1 - (k+1))) (k+1):=by
   rw[gM,show n - 1 - (n - 1 - (k+1))=k+1 by omega]
  rw[e00]at ih';generalize gM n a (n - 1 - (k+1))=b at*;generalize loopP (P.b4k K) F=g at ih' ⊢;unfold P.b4k;dsimp only;have e1:((k+1:Nat):Int)>0:=by omega
  have e2:(0:Int)≤((k+1:Nat):Int):=by omega
  have e3:((k+1:Nat):Int)<(n:Int):=by omega
  have e4:((k+1:Nat):Int)+((0:Nat):Int)≤(n:Int):=by omega
  have hse:seen ((tab n (b (k+1))).map (rp B32)) (0+0) (k+1 - 0)=(tab (k+1) (b (k+1))).map (rp B32):=by
   show List.take (k+1) (List.drop 0 _)=_;rw[List.drop_zero,←List.map_take,tab_take,Nat.min_eq_left (by omega)]
  simp only[a0q,a4n,Int.toNat_natCast,Nat.zero_add,c0p hk,c3u hk,List.length_map,a2c,e1,e2,e3,e4,decide_true,if_true];rw[show seen ((tab n (b (k+1))).map (rp B32)) 0 (k+1 - 0)=(tab (k+1) (b (k+1))).map (rp B32)from hse,summ_i (by have:=h.n12;omega) (fun j hj=>h.num _ (Nat.le_refl _) j (by omega)) h.par,Option.bind_some];dsimp only;have hsp:splice ((tab n (b (k+1))).map (rp B32)) ((tab (k+1) (b (k+1))).map (rp B32)) 0=(tab n (b (k+1))).map (rp B32):=by
   have:(tab (k+1) (b (k+1))).map (rp B32)=((tab n (b (k+1))).map (rp B32)).take (k+1):=by rw[←List.map_take,tab_take,Nat.min_eq_left (by omega)]
   rw[this];unfold splice;rw[List.take_zero,List.nil_append,List.length_take,List.length_map,a2c,Nat.min_eq_left (by omega),Nat.zero_add,List.take_append_drop]
  rw[a1p,hsp,om_back hk,if_neg (by decide)];have:=iro_mid h g hK;rw[show((k+1:Nat):Int) - 1=(k:Int) by omega,ih']at this;exact this
theorem iro_dot {G:Nat→Nat→Q3} {w:Nat→Q3} {n k:Nat} (kn:k<n) (n12:n≤12) (hw:∀i,i<k→okq (w i)) (hG:∀i,i<k→okq (G i k)) (hm:∀i,i<k→okq (c3y (w i) (G i k))) (hd:∀i,i≤k→okq (dotQ w (fun i=>G i k) i)) (g) {K:Nat} (hK:n<K):
  loopP (P.b1x g) K ((0:Int),(k:Int),rp B32 a5u,(tab k w).map (rp B32),om B32 n n G,(k:Int),())=g (((k+1:Nat):Int),om B32 n n G,(tab k w).map (rp B32)++[rp B32 (dotQ w (fun i=>G i k) k)],()):=by
 have key:=a0h (k:=K) (b:=P.b1x g) (n:=k) (st:=fun i=>((i:Int),(k:Int),rp B32 (dotQ w (fun i=>G i k) i),(tab k w).map (rp B32),om B32 n n G,(k:Int),())) (F:=fun _=>g (((k+1:Nat):Int),om B32 n n G,(tab k w).map (rp B32)++[rp B32 (dotQ w (fun i=>G i k) k)],())) (fun i g' hi hg=>by
  unfold P.b1x;dsimp only at hg ⊢;have e1:(i:Int)<(k:Int):=by omega
  have e3:(0:Int)≤(i:Int):=by omega
  have e4:(i:Int)<(n:Int):=by omega
  have e5:(0:Int)≤(k:Int):=by omega
  have e6:(k:Int)<(n:Int):=by omega
  simp only[a0q,a4n,List.length_map,a2c,Int.toNat_natCast,Nat.zero_add,c0p (show i<n by omega),c3u (show i<n by omega),b6l kn,b6l hi,a1p,a1z,e1,e3,e4,e5,e6,decide_true,if_true,Bool.false_eq_true,if_false];rw[mulo_i (hw i hi) (hG i hi),Option.bind_some];dsimp only;rw[addo_i (hd i (by omega)) (hm i hi),Option.bind_some,wr (by omega) (by omega)];exact hg) (fun g'=>by
  unfold P.b1x;dsimp only;have e1:(k+1)*56≤140737488355328:=by omega
  rw[if_neg (by simp),a1p,a1z,wr (by omega) (by omega)];simp only[List.length_map,a2c,List.length_cons,List.length_nil,Nat.zero_add,e1,decide_true,if_true,Bool.false_eq_true,if_false];rfl) (by omega)
 exact key
def redQ (a:Nat→Nat→Q3) (n:Nat):List Q3:=d0b (tab n (wF (gM n a (n - 1)) (n - 1))) (a8o (tab n (wF (gM n a (n - 1)) (n - 1))))
theorem iro_w {a:Nat→Nat→Q3} {n:Nat} (h:redOk a n) {K:Nat} (hK:n<K):∀(m k F:Nat),k+1+m=n→m<F→
  loopP (P.a8q K) F (((k+1:Nat):Int),om B32 n n (gM n a (n - 1)),(tab (k+1) (wF (gM n a (n - 1)) k)).map (rp B32),())=some ((redQ a n).map (rp B32),om B32 n n (gM n a (n - 1)),()):=by
 intro m
 induction m with
 |zero=>
  intro k F hk hF;obtain⟨F,rfl⟩:∃j,F=j+1:=⟨F - 1,by omega⟩
  rw[a0k];have hn:=h.n12;have h0:=h.s0;have hw:=h.w (n - 1) (by omega);have hs:=h.s;unfold redQ;have e:k=n - 1:=by omega
  subst e;have e2:n - 1+1=n:=by omega
  rw[e2];generalize wF (gM n a (n - 1)) (n - 1)=f at*;unfold P.a8q;dsimp only;have e3:¬(n:Int)<(n:Int):=by omega
  simp only[a0q,a4n,e3,decide_false,Bool.false_eq_true,if_false];rw[summ_i hn (fun j hj=>hw j (by omega)) hs,Option.bind_some];dsimp only;have hsp:splice ((tab n f).map (rp B32)) ((tab n f).map (rp B32)) 0=(tab n f).map (rp B32):=by
   unfold splice;simp
  rw[hsp];have ec:S.b7c ((tab n f).map (rp B32),((rp B32 (a8o (tab n f))).1,(rp B32 (a8o (tab n f))).2.1,(rp B32 (a8o (tab n f))).2.2),())=some ((d0b (tab n f) (a8o (tab n f))).map (rp B32),()):=by
   show S.b7c ((tab n f).map (rp B32),rp B32 (a8o (tab n f)),())=_;unfold S.b7c;dsimp only
   rw[if_pos ⟨tab n f,_,rfl,rfl,by rw[a2c];omega,fun q hq=>by
    obtain⟨j,hj,rfl⟩:=b9j.1 hq;exact hw j (by omega),(hs n (Nat.le_refl _)).1,(hs n (Nat.le_refl _)).2,h0⟩,b2o a0e,a5t a0e]
  rw[ec,Option.bind_some,a1p,a1z,if_neg (by decide)]
 |succ m ih=>
  intro k F hk hF;obtain⟨F,rfl⟩:∃j,F=j+1:=⟨F - 1,by omega⟩
  rw[a0k];have ih':=ih (k+1) F (by omega) (by omega);have hn:=h.n12;have hw:=h.w k (by omega);have hg:=h.g (k+1) (by omega);have hm:=h.m k (by omega);have hd:=h.d k (by omega);have et:tab (k+1+1) (wF (gM n a (n - 1)) (k+1))=tab (k+1) (wF (gM n a (n - 1)) k)++[dotQ (wF (gM n a (n - 1)) k) (fun i=>gM n a (n - 1) i (k+1)) (k+1)]:=by
   rw[c3l,wF];dsimp only;rw[if_pos rfl];congr 1;apply a2d;intro i hi;rw[if_neg (by omega)]
  rw[et,List.map_append]at ih';generalize wF (gM n a (n - 1)) k=f at*;generalize gM n a (n - 1)=G at*;generalize loopP (P.a8q K) F=g' at ih' ⊢;unfold P.a8q;dsimp only;have e1:((k+1:Nat):Int)<(n:Int):=by omega
  have hz:S.a5g (0,())=some (rp B32 a5u,()):=by rfl
  simp only[a0q,a4n,e1,decide_true,if_true];rw[hz,Option.bind_some,a1p,a1z,if_neg (by decide)];have:=iro_dot (G:=G) (w:=f) (n:=n) (k:=k+1) (by omega) hn (fun i hi=>hw i (by omega)) hg hm hd g' hK;exact this.trans ih'
open Classical in
def S.c0g (x:((List ((List RB)×Nat))×Unit)):(Option ((List RB)×((List ((List RB)×Nat))×Unit))):=
 if h:∃(a:Nat→Nat→Q3) (n:Nat),x.1=om B32 n n a∧redOk a n then some ((redQ h.choose h.choose_spec.choose).map (rp B32),om B32 h.choose_spec.choose h.choose_spec.choose (gM h.choose_spec.choose h.choose (h.choose_spec.choose - 1)),())else none
theorem S.i_restOf_ok (x r) (h:S.c0g x=some r):∃k,P.i_restOf k x=some r:=by
 obtain⟨m,u⟩:=x;unfold S.c0g at h;dsimp only at h;split at h
 case isFalse=>cases h
 rename_i hc;have hs:=hc.choose_spec.choose_spec;cases h;generalize hc.choose_spec.choose=n at*;generalize hc.choose=a at*;obtain⟨rfl,hr⟩:=hs;have n0:=hr.n0;have hn:=hr.n12;refine⟨n+1,?_⟩;unfold P.i_restOf;dsimp only;rw[a1p,a1z,a0q,a4n,wr (by omega) (by omega),if_neg (by decide),show(n:Int) - 1=((n - 1:Nat):Int) by omega];have h1:=iro_red hr.red (K:=n+1) (by omega) (n - 1) (n+1) (by omega) (by omega);have h2:=iro_w hr (K:=n+1) (by omega) (n - 1) 0 (n+1) (by omega) (by omega);rw[Nat.sub_self]at h1;exact h1.trans h2
theorem rest_i {a:Nat→Nat→Q3} {n:Nat} (h:redOk a n):S.c0g (om B32 n n a,())=some ((redQ a n).map (rp B32),(om B32 n n (gM n a (n - 1)),())):=by
 unfold S.c0g;have hc:∃(b:Nat→Nat→Q3) (m:Nat),(om B32 n n a,()).1=om B32 m m b∧redOk b m:=⟨a,n,rfl,h⟩
 rw[dif_pos hc];obtain⟨e,_⟩:=hc.choose_spec.choose_spec;dsimp only at e;generalize hc.choose_spec.choose=m at*;generalize hc.choose=b at*;obtain⟨e1,e2⟩:=om_inj a0e e;subst e1;have hab:∀i,i<n→∀j,j<n→b i j=a i j:=fun i hi j hj=>((e2 i hi).2 j hj).symm
 have h0:=h.n0;have hg:=gM_congr hab (n - 1);have hw:tab n (wF (gM n b (n - 1)) (n - 1))=tab n (wF (gM n a (n - 1)) (n - 1)):=a2d fun i hi=>wF_congr hg (n - 1) (by omega) i
 unfold redQ;rw[hw,b7w hg]
abbrev i_rest.A:=Int×Int×List Int×List RB×List (List RB)×Int×List (List RB×Nat)×Int×Int×List Int×List Int×Unit
abbrev i_rest.B:=Int×Int×List Int×List Int×List (List RB)×List (List RB×Nat)×Unit
abbrev i_rest.C:=Int×Int×List Int×List Int×List Int×List (List RB)×Unit
abbrev i_rest.D:=Option ((List RB×Bool)×Unit)
abbrev P.b9n (g7:i_rest.B→i_rest.D) (x10:i_rest.A) (g11:i_rest.A→i_rest.D):i_rest.D:=
 (fun(a b f i j:Int) (c l m:List Int) (d:List RB) (e:List (List RB)) (h:List (List RB×Nat))=>if decide (a<b)then if decide ((0:Int)≤a)then if decide (a<(c.length:Int))then if decide ((0:Int)≤f)then if decide (f<(e.length:Int))then if decide ((0:Int)≤(c.getD a.toNat (0:Int)))then if decide ((c.getD a.toNat (0:Int))<(List.length (e.getD f.toNat ([]:List RB)):Int))then if decide (((d.length+(List.length [((List.getD (e.getD f.toNat ([]:List RB)) (Int.toNat (c.getD a.toNat (0:Int))) (false,([]:List Int),([]:List Int))).1,(List.getD (e.getD f.toNat ([]:List RB)) (Int.toNat (c.getD a.toNat (0:Int))) (false,([]:List Int),([]:List Int))).2.1,(List.getD (e.getD f.toNat ([]:List RB)) (Int.toNat (c.getD a.toNat (0:Int))) (false,([]:List Int),([]:List Int))).2.2)]))*(56:Nat))≤(140737488355328:Nat))then if dup (List.map (fun(y12:Nat×Nat)=>y12.1) (hd0 h))then none else g11 (IntKind.wrap .i64 (a+(1:Int)),b,c,d++[((List.getD (e.getD f.toNat ([]:List RB)) (Int.toNat (c.getD a.toNat (0:Int))) (false,([]:List Int),([]:List Int))).1,(List.getD (e.getD f.toNat ([]:List RB)) (Int.toNat (c.getD a.toNat (0:Int))) (false,([]:List Int),([]:List Int))).2.1,(List.getD (e.getD f.toNat ([]:List RB)) (Int.toNat (c.getD a.toNat (0:Int))) (false,([]:List Int),([]:List Int))).2.2)],e,f,nrm (hd0 h) (in0 h),i,j,l,m,())else none else none else none else none else none else none else none else if decide ((((List.length (hd0 h))+(List.length (hd0 [(d,d.length)])))*(24:Nat))≤(140737488355328:Nat))then if dup (List.map (fun(y13:Nat×Nat)=>y13.1) (b0n (List.length (in0 h)) (hd0 h) (hd0 [(d,d.length)])))then none else g7 (IntKind.wrap .i64 (i+(1:Int)),j,l,m,e,nrm (b0n (List.length (in0 h)) (hd0 h) (hd0 [(d,d.length)])) ((in0 h)++[d]),())else none) x10.1 x10.2.1 x10.2.2.2.2.2.1 x10.2.2.2.2.2.2.2.1 x10.2.2.2.2.2.2.2.2.1 x10.2.2.1 x10.2.2.2.2.2.2.2.2.2.1 x10.2.2.2.2.2.2.2.2.2.2.1 x10.2.2.2.1 x10.2.2.2.2.1 x10.2.2.2.2.2.2.1
abbrev P.c0h (x19:Int×Int×List RB×List RB×List Int×Unit) (g20:Int×Int×List RB×List RB×List Int×Unit→i_rest.D):i_rest.D:=
 (fun(a b:Int) (c d:List RB) (e:List Int)=>if decide (a<b)then if decide ((0:Int)≤a)then if decide (a<(c.length:Int))then if decide ((0:Int)≤a)then if decide (a<(e.length:Int))then if decide ((0:Int)≤(e.getD a.toNat (0:Int)))then if decide ((e.getD a.toNat (0:Int))<(d.length:Int))then g20 (IntKind.wrap .i64 (a+(1:Int)),b,c,d.set ((0:Nat)+(Int.toNat (e.getD a.toNat (0:Int)))) ((c.getD a.toNat (false,([]:List Int),([]:List Int))).1,(c.getD a.toNat (false,([]:List Int),([]:List Int))).2.1,(c.getD a.toNat (false,([]:List Int),([]:List Int))).2.2),e,())else none else none else none else none else none else none else some ((d,true),())) x19.1 x19.2.1 x19.2.2.1 x19.2.2.2.1 x19.2.2.2.2.1
abbrev P.b6h (k:Nat) (x6:i_rest.B) (g7:i_rest.B→i_rest.D):i_rest.D:=
 if decide (x6.1<x6.2.1)then if decide ((0:Int)≤x6.1)then if decide (x6.1<(x6.2.2.1.length:Int))then if dup (List.map (fun(y8:Nat×Nat)=>y8.1) (hd0 x6.2.2.2.2.2.1))then none else loopP (P.b9n g7) k ((0:Int),(x6.2.2.2.1.length:Int),x6.2.2.2.1,([]:List RB),x6.2.2.2.2.1,x6.2.2.1.getD x6.1.toNat (0:Int),nrm (hd0 x6.2.2.2.2.2.1) (in0 x6.2.2.2.2.2.1),x6.1,x6.2.1,x6.2.2.1,x6.2.2.2.1,())else none else none else(S.a5g ((0:Int),())).bind fun y14=>(S.a1i ([(y14.1.1,y14.1.2.1,y14.1.2.2)],(x6.2.2.2.2.1.length:Int),())).bind fun y15=>if dup (List.map (fun(y16:Nat×Nat)=>y16.1) (hd0 x6.2.2.2.2.2.1))then none else(S.c0g (nrm (hd0 x6.2.2.2.2.2.1) (in0 x6.2.2.2.2.2.1),())).bind fun y17=>loopP P.c0h k ((0:Int),(y17.1.length:Int),y17.1,y15.1,x6.2.2.2.1,())
abbrev P.b9o (k:Nat) (x3:i_rest.C) (g4:i_rest.C→i_rest.D):i_rest.D:=
 (fun(a b:Int) (c d e:List Int) (f:List (List RB))=>if decide (a<b)then if decide ((0:Int)≤a)then if decide (a<(c.length:Int))then if decide ((0:Int)<(d.length:Int))then if(c.getD a.toNat (0:Int))==(d.getD (0:Nat) (0:Int))then if decide (((e.length+(List.length [a]))*(8:Nat))≤(140737488355328:Nat))then g4 (IntKind.wrap .i64 (a+(1:Int)),b,c,d,e++[a],f,())else none else g4 (IntKind.wrap .i64 (a+(1:Int)),b,c,d,e,f,())else none else none else none else loopP (P.b6h k) k ((0:Int),(e.length:Int),e,e,f,nrm (hd0 ([]:List (List RB×Nat))) (in0 ([]:List (List RB×Nat))),())) x3.1 x3.2.1 x3.2.2.1 x3.2.2.2.1 x3.2.2.2.2.1 x3.2.2.2.2.2.1
def P.i_rest (k:Nat) (x:List (List RB)×Unit):i_rest.D:=
 (S.b6a (x.1,())).bind fun y0=>(S.c4h (y0.1.2,())).bind fun y1=>if(y1.1.length:Int) != (1:Int)then some ((([]:List RB),false),())else loopP (P.b9o k) k ((0:Int),(y0.1.1.length:Int),y0.1.1,y1.1,([]:List Int),x.1,())
theorem irs_states {M:List (List Q3)} (h:isM M) {k:Int} {K:Nat} (hK:12<K):
  loopP (P.b9o K) K ((0:Int),(M.length:Int),(b5g M).1,[k],([]:List Int),mp B32 M,())=loopP (P.b6h K) K ((0:Int),((fl (clC M k) M.length).length:Int),zs (fl (clC M k) M.length),zs (fl (clC M k) M.length),mp B32 M,([]:List (List (Bool×(List Int×List Int))×Nat)),()):=by
 have hn:=h.1;have hl:(b5g M).1.length=M.length:=(c0d (rcB M) M.length M.length).1;have key:=a0h (k:=K) (b:=P.b9o K) (n:=M.length) (st:=fun i=>((i:Int),(M.length:Int),(b5g M).1,[k],zs (fl (clC M k) i),mp B32 M,())) (F:=fun _=>loopP (P.b6h K) K ((0:Int),((fl (clC M k) M.length).length:Int),zs (fl (clC M k) M.length),zs (fl (clC M k) M.length),mp B32 M,([]:List (List (Bool×(List Int×List Int))×Nat)),())) (fun i g hi hg=>by
  unfold P.b9o;dsimp only at hg ⊢;have e1:(i:Int)<(M.length:Int):=by omega
  have e2:(0:Int)≤(i:Int):=by omega
  have e3:=fl_le (clC M k) i;have e4:((fl (clC M k) i).length+1)*8≤140737488355328:=by omega
  have e5:(0:Int)<((1:Nat):Int):=by decide
  simp only[hl,c3k,e1,e2,e4,e5,List.length_cons,List.length_nil,Nat.zero_add,decide_true,if_true,Int.toNat_natCast];rw[show([k]:List Int).getD 0 0=k from rfl,clC_at hi,wr (by omega) (by omega)];rw[c5n]at hg;cases hc:clC M k i
  ·rw[hc,if_neg (by decide),List.append_nil]at hg;rw[if_neg (by decide)];exact hg
  ·rw[hc,if_pos rfl,zs_append]at hg;rw[if_pos rfl];exact hg) (fun g=>by
  unfold P.b9o;dsimp only;rw[if_neg (by simp),c3k];rfl) (by omega)
 exact key
theorem irs_row {M:List (List Q3)} (h:isM M) {c:Nat→Bool} {a:Nat} (ha:a<(fl c M.length).length) (g) {K:Nat} (hK:12<K):
  loopP (P.b9n g) K ((0:Int),((fl c M.length).length:Int),zs (fl c M.length),([]:List (Bool×(List Int×List Int))),mp B32 M,(((fl c M.length).getD a 0:Nat):Int),om B32 a (fl c M.length).length (subQ M c),(a:Int),((fl c M.length).length:Int),zs (fl c M.length),zs (fl c M.length),())=g (((a+1:Nat):Int),((fl c M.length).length:Int),zs (fl c M.length),zs (fl c M.length),mp B32 M,om B32 (a+1) (fl c M.length).length (subQ M c),()):=by
 have hn:=h.1;have hm:=fl_le c M.length;obtain⟨f1,f2⟩:=c3m ha;have key:=a0h (k:=K) (b:=P.b9n g) (n:=(fl c M.length).length) (st:=fun b=>((b:Int),((fl c M.length).length:Int),zs (fl c M.length),(tab b (subQ M c a)).map (rp B32),mp B32 M,(((fl c M.length).getD a 0:Nat):Int),om B32 a (fl c M.length).length (subQ M c),(a:Int),((fl c M.length).length:Int),zs (fl c M.length),zs (fl c M.length),())) (F:=fun _=>g (((a+1:Nat):Int),((fl c M.length).length:Int),zs (fl c M.length),zs (fl c M.length),mp B32 M,om B32 (a+1) (fl c M.length).length (subQ M c),())) (fun b g' hb hg=>by
  unfold P.b9n;dsimp only at hg ⊢;obtain⟨q1,q2⟩:=c3m hb;have e1:(b:Int)<((fl c M.length).length:Int):=by omega
  have e2:(0:Int)≤(b:Int):=by omega
  have e3:(0:Int)≤(((fl c M.length).getD a 0:Nat):Int):=by omega
  have e4:(((fl c M.length).getD a 0:Nat):Int)<(M.length:Int):=by omega
  have e5:(0:Int)≤(((fl c M.length).getD b 0:Nat):Int):=by omega
  have e6:(((fl c M.length).getD b 0:Nat):Int)<(M.length:Int):=by omega
  have e7:(b+1)*56≤140737488355328:=by omega
  have e8:((mp B32 M).getD ((fl c M.length).getD a 0) []).getD ((fl c M.length).getD b 0) (false,(([]:List Int),([]:List Int)))=rp B32 (subQ M c a b):=mq_held h f1 q1;simp only[c3k,d2b,Int.toNat_natCast,b0g,mq_wide h f1,List.length_map,a2c,List.length_cons,List.length_nil,Nat.zero_add,a1p,a1z,e1,e2,e3,e4,e5,e6,e7,e8,decide_true,if_true,Bool.false_eq_true,if_false];rw[wr (by omega) (by omega)];rw[←c3v]at hg;exact hg) (fun g'=>by
  unfold P.b9n;dsimp only;have e1:(a+1)*24≤140737488355328:=by omega
  have e2:= @om_app B32 a (fl c M.length).length (subQ M c);rw[if_neg (by simp),wr (by omega) (by omega)];simp only[a0q,a4n,List.length_map,a2c,List.length_cons,List.length_nil,Nat.zero_add,e1,e2.1,e2.2,decide_true,if_true,Bool.false_eq_true,if_false];rfl) (by omega)
 exact key
theorem irs_rep {n:Nat} (h:n≤12):S.a1i ([((rp B32 a5u).1,(rp B32 a5u).2.1,(rp B32 a5u).2.2)],(n:Int),())=some (List.replicate n (rp B32 a5u),()):=by
 unfold S.a1i;dsimp only;rw[if_pos ⟨rfl,by omega,by omega⟩,Int.toNat_natCast];rfl
open Classical in
def S.i_rest (x:((List (List RB))×Unit)):(Option (((List RB)×Bool)×Unit)):=if ∃M,isCh M∧x.1=mp B32 M then some (((b4s (mv B32 x.1)).1.map (rp B32),(b4s (mv B32 x.1)).2),())else none
theorem S.i_rest_ok (x r) (h:S.i_rest x=some r):∃k,P.i_rest k x=some r:=by
 obtain⟨m,u⟩:=x;unfold S.i_rest at h;dsimp only at h;split at h
 case isFalse=>cases h
 rename_i hc;obtain⟨M,hM,rfl⟩:=hc;cases h;rw[c3h (by decide)];have hI:=hM.2.1;have hn:=hI.1;have hl:=c0d (rcB M) M.length M.length;refine⟨13,?_⟩;unfold P.i_rest;dsimp only;have ec:S.b6a (mp B32 M,())=some (b5g M,()):=by
  unfold S.b6a;dsimp only;rw[if_pos ⟨M,hI,rfl⟩,c3h (by decide)]
 have es:S.c4h ((b5g M).2,())=some (a5o 0 (b5g M).2,()):=by
  unfold S.c4h;dsimp only;rw[if_pos (by have:=hl.2;unfold b5g clsQ;omega)]
 rw[ec,Option.bind_some,es,Option.bind_some];dsimp only
 by_cases h1:(a5o 0 (b5g M).2).length=1
 case neg=>
  rw[if_pos (by simpa using(show ¬((a5o 0 (b5g M).2).length:Int)=1 by omega)),c6h h1];rfl
 rw[if_neg (by simpa using(show((a5o 0 (b5g M).2).length:Int)=1 by omega))];obtain⟨k,hk⟩:=len_one h1;rw[restT_one hk,hk];have hcl:(b5g M).1.length=M.length:=hl.1;rw[hcl,irs_states hI (by decide)];obtain⟨m0,m12,mi,_⟩:=sub_ok hM hk;obtain⟨D,hD⟩:=sub_allB hM (clC M k);have hro:=redOk_of m0 m12 rfl hD mi;have key:=a0h (k:=13) (b:=P.b6h 13) (n:=(fl (clC M k) M.length).length) (st:=fun a=>((a:Int),((fl (clC M k) M.length).length:Int),zs (fl (clC M k) M.length),zs (fl (clC M k) M.length),mp B32 M,om B32 a (fl (clC M k) M.length).length (subQ M (clC M k)),())) (F:=fun _=>some (((tab M.length (b4r M (clC M k))).map (rp B32),true),())) (fun a g ha hg=>by
  unfold P.b6h;dsimp only at hg ⊢;have e1:(a:Int)<((fl (clC M k) M.length).length:Int):=by omega
  have e2:(0:Int)≤(a:Int):=by omega
  simp only[c3k,d2b,Int.toNat_natCast,a1p,a1z,e1,e2,decide_true,if_true,Bool.false_eq_true,if_false];rw[irs_row hI ha g (by decide)];exact hg) (fun g=>by
  unfold P.b6h;dsimp only;have hz:S.a5g (0,())=some (rp B32 a5u,()):=by rfl
  rw[if_neg (by simp),hz,Option.bind_some];dsimp only;rw[b0g,irs_rep hn,Option.bind_some];simp only[a1p,a1z,Bool.false_eq_true,if_false];rw[rest_i hro,Option.bind_some];dsimp only;have er:redQ (subQ M (clC M k)) (fl (clC M k) M.length).length=tab (fl (clC M k) M.length).length fun a=>a2r (wC M (clC M k) a) (a8o (tab (fl (clC M k) M.length).length (wC M (clC M k)))):=by
   unfold redQ d0b;rw[c5l];rfl
  rw[er,List.length_map,a2c,tab_rep,show(tab M.length fun _=>rp B32 a5u)=(puts M.length (clC M k) (fun a=>a2r (wC M (clC M k) a) (a8o (tab (fl (clC M k) M.length).length (wC M (clC M k))))) (fun _=>a5u) 0).map (rp B32) by rw[puts_zero,c5l]];have key2:=a0h (k:=13) (b:=P.c0h) (n:=(fl (clC M k) M.length).length) (st:=fun a=>((a:Int),((fl (clC M k) M.length).length:Int),(tab (fl (clC M k) M.length).length fun a=>a2r (wC M (clC M k) a) (a8o (tab (fl (clC M k) M.length).length (wC M (clC M k))))).map (rp B32),(puts M.length (clC M k) (fun a=>a2r (wC M (clC M k) a) (a8o (tab (fl (clC M k) M.length).length (wC M (clC M k))))) (fun _=>a5u) a).map (rp B32),zs (fl (clC M k) M.length),())) (F:=fun _=>some (((tab M.length (b4r M (clC M k))).map (rp B32),true),())) (fun a g' ha hg=>by
   unfold P.c0h;dsimp only at hg ⊢;obtain⟨q1,q2⟩:=c3m ha;have e1:(a:Int)<((fl (clC M k) M.length).length:Int):=by omega
   have e2:(0:Int)≤(a:Int):=by omega
   have e5:(0:Int)≤(((fl (clC M k) M.length).getD a 0:Nat):Int):=by omega
   have e6:(((fl (clC M k) M.length).getD a 0:Nat):Int)<(M.length:Int):=by omega
   simp only[c3k,d2b,Int.toNat_natCast,List.length_map,a2c,puts_len,b6l ha,Nat.zero_add,e1,e2,e5,e6,decide_true,if_true];rw[wr (by omega) (by omega)];rw[←puts_set ha]at hg;exact hg) (fun g'=>by
   unfold P.c0h;dsimp only;rw[if_neg (by simp),puts_all];rfl) (by omega)
  exact key2) (by omega)
 exact key
def P.b3d (k:Nat) (x:List (List ByteArray)×Unit):Option ((List (List RB)×List RB×Bool)×Unit):=
 (S.b5x (x.1,())).bind fun y0=>if !y0.1.2 then some ((([]:List (List RB)),([]:List RB),false),())else(S.i_rest (y0.1.1,())).bind fun y1=>some ((y0.1.1,y1.1.1,y1.1.2),())
def S.b3e (x:((List (List ByteArray))×Unit)):(Option (((List (List RB))×((List RB)×Bool))×Unit)):=P.b3d 0 x
theorem S.c8c (x r) (h:S.b3e x=some r):∃k,P.b3d k x=some r:=⟨0,h⟩
def P.b1l (k:Nat) (x:List (List ByteArray)×Unit):Option ((List ByteArray×Bool)×Unit):=
 (S.b3e (x.1,())).bind fun y0=>if !y0.1.2.2 then some ((([]:List ByteArray),false),())else(S.b3s (y0.1.2.1,())).bind fun y1=>some ((y1.1.1,y1.1.2),())
def S.a5r (x:((List (List ByteArray))×Unit)):(Option (((List ByteArray)×Bool)×Unit)):=P.b1l 0 x
theorem S.c5t (x r) (h:S.a5r x=some r):∃k,P.b1l k x=some r:=⟨0,h⟩
def P.a3c (k:Nat) (x:List (List ByteArray)×Unit):Option (Bool×Unit):=
 (S.b8e (x.1,(1000000:Int),())).bind fun y0=>if decide (y0.1<(0:Int))then some (true,())else(S.a8g (x.1,false,())).bind fun y1=>(S.a7l (List.map (fun(y2:List ByteArray×Nat)=>List.map (fun(y3:ByteArray)=>y3) (List.take y2.2 y2.1)) (seen (nrm (hd0 y1.1.1) (in0 y1.1.1)) 0 y1.1.2),())).bind fun y4=>(S.a8g (x.1,false,())).bind fun y5=>(S.a5r (List.map (fun(y6:List ByteArray×Nat)=>List.map (fun(y7:ByteArray)=>y7) (List.take y6.2 y6.1)) (seen (nrm (hd0 y5.1.1) (in0 y5.1.1)) 0 y5.1.2),())).bind fun y8=>(S.a2l (y8.1.1,y4.1.1,())).bind fun y9=>if !y9.1 then some (false,())else if ! (y8.1.2==y4.1.2)then some (false,())else(S.a8g (x.1,false,())).bind fun y10=>(S.a8y ((List.drop 0 (nrm (hd0 y5.1.1) (in0 y5.1.1)),y5.1.2),(List.drop 0 (nrm (hd0 y10.1.1) (in0 y10.1.1)),y10.1.2),())).bind fun y11=>if !y11.1 then some (false,())else if dup (List.map (fun(y12:Nat×Nat)=>y12.1) (seen (hd0 y5.1.1) 0 y5.1.2))then none else(fun(e0:Option (Bool×Unit))=>if decide (y5.1.2=(List.length (hd0 y5.1.1)))then e0 else e0) ((S.b3t (nrm (seen (hd0 y5.1.1) 0 y5.1.2) (in0 y5.1.1),(101:Int),())).bind fun y13=>if decide (y13.1<(0:Int))then some (false,())else(S.a2l (y8.1.1,y4.1.1,())).bind fun y14=>if !y14.1 then some (false,())else if ! (y8.1.2==y4.1.2)then some (false,())else(S.a3n (y8.1.1,(101:Int),())).bind fun y15=>(S.a5b (splice y8.1.1 y15.2.1 (0:Nat),(101:Int),())).bind fun y16=>if decide (y16.1<(0:Int))then some (false,())else if y16.1 != y15.1 then some (false,())else(S.a8g (x.1,true,())).bind fun y17=>(S.a5r (List.map (fun(y18:List ByteArray×Nat)=>List.map (fun(y19:ByteArray)=>y19) (List.take y18.2 y18.1)) (seen (nrm (hd0 y17.1.1) (in0 y17.1.1)) 0 y17.1.2),())).bind fun y20=>(S.a2l (y20.1.1,y4.1.1,())).bind fun y21=>if !y21.1 then some (false,())else if ! (y20.1.2==y4.1.2)then some (false,())else(S.a5b (splice y8.1.1 y15.2.1 (0:Nat),(101:Int),())).bind fun y22=>if decide (y22.1<(0:Int))then some (false,())else if y22.1 != y15.1 then some (false,())else some (true,()))
def S.a6l (x:((List (List ByteArray))×Unit)):(Option (Bool×Unit)):=P.a3c 0 x
theorem S.b6i (x r) (h:S.a6l x=some r):∃k,P.a3c k x=some r:=⟨0,h⟩
end Go.Cm
end
