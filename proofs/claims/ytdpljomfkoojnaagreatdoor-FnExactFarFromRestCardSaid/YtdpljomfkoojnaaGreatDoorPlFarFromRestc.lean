import Derived.Test.YtdpljomfkoojnaaGreatDoorPlFarFromRestb
set_option linter.unusedVariables false
set_option maxRecDepth 100000
noncomputable section
namespace Go.Cm
open IntKind (wrap)
abbrev s_l03Solve.A:=Option ((List RB×Bool)×List (List RB×Nat)×Unit)
abbrev s_l03Solve.B:=Int×Int×Int×List (List RB×Nat)×Unit
abbrev s_l03Solve.C:=Int×Int×List (List RB×Nat)×Unit
abbrev P.a8b (g16:s_l03Solve.B->s_l03Solve.A) (x23:Int×Int×List (List RB×Nat)×Int×RB×Int×Unit) (g24:Int×Int×List (List RB×Nat)×Int×RB×Int×Unit->s_l03Solve.A):s_l03Solve.A:=
 (fun(a b d f:Int) (c:List (List RB×Nat)) (e:RB)=>if decide (a<=b)then if decide (0<=d)then if decide (d<(List.length (hd0 c):Int))then if decide (0<=d)then if decide (d<(List.length (hd0 c):Int))then if decide (0<=a)then if decide (a<(((List.getD (hd0 c) (0+d.toNat) (0,0)).2:Nat):Int))then if decide (0<=f)then if decide (f<(List.length (hd0 c):Int))then if decide (0<=a)then if decide (a<(((List.getD (hd0 c) (0+f.toNat) (0,0)).2:Nat):Int))then(S.a7o ((e.1,e.2.1,e.2.2),((List.getD (List.getD (in0 c) (List.getD (hd0 c) (0+f.toNat) (0,0)).1 []) (0+a.toNat) (false,[],[])).1,(List.getD (List.getD (in0 c) (List.getD (hd0 c) (0+f.toNat) (0,0)).1 []) (0+a.toNat) (false,[],[])).2.1,(List.getD (List.getD (in0 c) (List.getD (hd0 c) (0+f.toNat) (0,0)).1 []) (0+a.toNat) (false,[],[])).2.2),())).bind fun y25=>(S.a4b (((List.getD (List.getD (in0 c) (List.getD (hd0 c) (0+d.toNat) (0,0)).1 []) (0+a.toNat) (false,[],[])).1,(List.getD (List.getD (in0 c) (List.getD (hd0 c) (0+d.toNat) (0,0)).1 []) (0+a.toNat) (false,[],[])).2.1,(List.getD (List.getD (in0 c) (List.getD (hd0 c) (0+d.toNat) (0,0)).1 []) (0+a.toNat) (false,[],[])).2.2),(y25.1.1,y25.1.2.1,y25.1.2.2),())).bind fun y26=>if decide (0<=a)then if decide (a<(((List.getD (hd0 c) (0+d.toNat) (0,0)).2:Nat):Int))then if dup (List.map (fun(y27:Nat×Nat)=>y27.1) (hd0 c))then none else g24 (wrap .i64 (a+1),b,nrm (hd0 c) (List.set (in0 c) (List.getD (hd0 c) (0+d.toNat) (0,0)).1 (List.set (List.getD (in0 c) (List.getD (hd0 c) (0+d.toNat) (0,0)).1 []) (0+a.toNat) (y26.1.1,y26.1.2.1,y26.1.2.2))),d,(e.1,e.2.1,e.2.2),f,())else none else none else none else none else none else none else none else none else none else none else none else none else if dup (List.map (fun(y28:Nat×Nat)=>y28.1) (hd0 c))then none else g16 (wrap .i64 (d+1),b,f,nrm (hd0 c) (in0 c),())) x23.1 x23.2.1 x23.2.2.2.1 x23.2.2.2.2.2.1 x23.2.2.1 x23.2.2.2.2.1
abbrev P.a4s (k:Nat) (g3:s_l03Solve.C->s_l03Solve.A) (x15:s_l03Solve.B) (g16:s_l03Solve.B->s_l03Solve.A):s_l03Solve.A:=
 (fun(a b c:Int) (d:List (List RB×Nat))=>if decide (a<b)then if a==c then if dup (List.map (fun(y17:Nat×Nat)=>y17.1) (hd0 d))then none else g16 (wrap .i64 (a+1),b,c,nrm (hd0 d) (in0 d),())else if decide (0<=a)then if decide (a<(List.length (hd0 d):Int))then if decide (0<=c)then if decide (c<(((List.getD (hd0 d) (0+a.toNat) (0,0)).2:Nat):Int))then(S.b0e (((List.getD (List.getD (in0 d) (List.getD (hd0 d) (0+a.toNat) (0,0)).1 []) (0+c.toNat) (false,[],[])).1,(List.getD (List.getD (in0 d) (List.getD (hd0 d) (0+a.toNat) (0,0)).1 []) (0+c.toNat) (false,[],[])).2.1,(List.getD (List.getD (in0 d) (List.getD (hd0 d) (0+a.toNat) (0,0)).1 []) (0+c.toNat) (false,[],[])).2.2),())).bind fun y18=>if y18.1 then if dup (List.map (fun(y19:Nat×Nat)=>y19.1) (hd0 d))then none else g16 (wrap .i64 (a+1),b,c,nrm (hd0 d) (in0 d),())else if decide (0<=a)then if decide (a<(List.length (hd0 d):Int))then if decide (0<=c)then if decide (c<(((List.getD (hd0 d) (0+a.toNat) (0,0)).2:Nat):Int))then if decide (0<=c)then if decide (c<(List.length (hd0 d):Int))then if decide (0<=c)then if decide (c<(((List.getD (hd0 d) (0+c.toNat) (0,0)).2:Nat):Int))then(S.a6d (((List.getD (List.getD (in0 d) (List.getD (hd0 d) (0+a.toNat) (0,0)).1 []) (0+c.toNat) (false,[],[])).1,(List.getD (List.getD (in0 d) (List.getD (hd0 d) (0+a.toNat) (0,0)).1 []) (0+c.toNat) (false,[],[])).2.1,(List.getD (List.getD (in0 d) (List.getD (hd0 d) (0+a.toNat) (0,0)).1 []) (0+c.toNat) (false,[],[])).2.2),((List.getD (List.getD (in0 d) (List.getD (hd0 d) (0+c.toNat) (0,0)).1 []) (0+c.toNat) (false,[],[])).1,(List.getD (List.getD (in0 d) (List.getD (hd0 d) (0+c.toNat) (0,0)).1 []) (0+c.toNat) (false,[],[])).2.1,(List.getD (List.getD (in0 d) (List.getD (hd0 d) (0+c.toNat) (0,0)).1 []) (0+c.toNat) (false,[],[])).2.2),())).bind fun y20=>if dup (List.map (fun(y21:Nat×Nat)=>y21.1) (hd0 d))then none else loopP (P.a8b g16) k (c,b,nrm (hd0 d) (in0 d),a,(y20.1.1,y20.1.2.1,y20.1.2.2),c,())else none else none else none else none else none else none else none else none else none else none else none else none else if dup (List.map (fun(y29:Nat×Nat)=>y29.1) (hd0 d))then none else g3 (wrap .i64 (c+1),b,nrm (hd0 d) (in0 d),())) x15.1 x15.2.1 x15.2.2.1 x15.2.2.2.1
abbrev P.b3f (k:Nat) (g3:s_l03Solve.C->s_l03Solve.A) (x6:Int×Int×List (List RB×Nat)×Int×Unit) (g7:Int×Int×List (List RB×Nat)×Int×Unit->s_l03Solve.A):s_l03Solve.A:=
 (fun(a b d:Int) (c:List (List RB×Nat))=>if decide (a<b)then if decide (0<=a)then if decide (a<(List.length (hd0 c):Int))then if decide (0<=d)then if decide (d<(((List.getD (hd0 c) (0+a.toNat) (0,0)).2:Nat):Int))then(S.b0e (((List.getD (List.getD (in0 c) (List.getD (hd0 c) (0+a.toNat) (0,0)).1 []) (0+d.toNat) (false,[],[])).1,(List.getD (List.getD (in0 c) (List.getD (hd0 c) (0+a.toNat) (0,0)).1 []) (0+d.toNat) (false,[],[])).2.1,(List.getD (List.getD (in0 c) (List.getD (hd0 c) (0+a.toNat) (0,0)).1 []) (0+d.toNat) (false,[],[])).2.2),())).bind fun y8=>if y8.1 then if dup (List.map (fun(y9:Nat×Nat)=>y9.1) (hd0 c))then none else g7 (wrap .i64 (a+1),b,nrm (hd0 c) (in0 c),d,())else if a==b then if dup (List.map (fun(y10:Nat×Nat)=>y10.1) (hd0 c))then none else some (([],false),nrm (hd0 c) (in0 c),())else if dup (List.map (fun(y11:Nat×Nat)=>y11.1) (hd0 c))then none else(S.b7c (nrm (hd0 c) (in0 c),d,a,())).bind fun y12=>if dup (List.map (fun(y13:Nat×Nat)=>y13.1) (hd0 y12.2.1))then none else loopP (P.a4s k g3) k (0,b,d,nrm (hd0 y12.2.1) (in0 y12.2.1),())else none else none else none else none else if a==b then if dup (List.map (fun(y30:Nat×Nat)=>y30.1) (hd0 c))then none else some (([],false),nrm (hd0 c) (in0 c),())else if dup (List.map (fun(y31:Nat×Nat)=>y31.1) (hd0 c))then none else(S.b7c (nrm (hd0 c) (in0 c),d,a,())).bind fun y32=>if dup (List.map (fun(y33:Nat×Nat)=>y33.1) (hd0 y32.2.1))then none else loopP (P.a4s k g3) k (0,b,d,nrm (hd0 y32.2.1) (in0 y32.2.1),())) x6.1 x6.2.1 x6.2.2.2.1 x6.2.2.1
abbrev P.b1t (x52:Int×Int×List RB×List (List RB×Nat)×Unit) (g53:Int×Int×List RB×List (List RB×Nat)×Unit->s_l03Solve.A):s_l03Solve.A:=
 (fun(a b:Int) (c:List RB) (d:List (List RB×Nat))=>if decide (a<b)then if decide (0<=a)then if decide (a<(List.length (hd0 d):Int))then if decide (0<=b)then if decide (b<(((List.getD (hd0 d) (0+a.toNat) (0,0)).2:Nat):Int))then if decide (0<=a)then if decide (a<(List.length (hd0 d):Int))then if decide (0<=a)then if decide (a<(((List.getD (hd0 d) (0+a.toNat) (0,0)).2:Nat):Int))then(S.a6d (((List.getD (List.getD (in0 d) (List.getD (hd0 d) (0+a.toNat) (0,0)).1 []) (0+b.toNat) (false,[],[])).1,(List.getD (List.getD (in0 d) (List.getD (hd0 d) (0+a.toNat) (0,0)).1 []) (0+b.toNat) (false,[],[])).2.1,(List.getD (List.getD (in0 d) (List.getD (hd0 d) (0+a.toNat) (0,0)).1 []) (0+b.toNat) (false,[],[])).2.2),((List.getD (List.getD (in0 d) (List.getD (hd0 d) (0+a.toNat) (0,0)).1 []) (0+a.toNat) (false,[],[])).1,(List.getD (List.getD (in0 d) (List.getD (hd0 d) (0+a.toNat) (0,0)).1 []) (0+a.toNat) (false,[],[])).2.1,(List.getD (List.getD (in0 d) (List.getD (hd0 d) (0+a.toNat) (0,0)).1 []) (0+a.toNat) (false,[],[])).2.2),())).bind fun y54=>if decide (((c.length+(List.length [(y54.1.1,y54.1.2.1,y54.1.2.2)]))*56)<=140737488355328)then if dup (List.map (fun(y55:Nat×Nat)=>y55.1) (hd0 d))then none else g53 (wrap .i64 (a+1),b,c++[(y54.1.1,y54.1.2.1,y54.1.2.2)],nrm (hd0 d) (in0 d),())else none else none else none else none else none else none else none else none else none else if dup (List.map (fun(y56:Nat×Nat)=>y56.1) (hd0 d))then none else some ((c,true),nrm (hd0 d) (in0 d),())) x52.1 x52.2.1 x52.2.2.1 x52.2.2.2.1
abbrev P.b3g (k:Nat) (x2:s_l03Solve.C) (g3:s_l03Solve.C->s_l03Solve.A):s_l03Solve.A:=
 if decide (x2.1<x2.2.1)then if dup (List.map (fun(y4:Nat×Nat)=>y4.1) (hd0 x2.2.2.1))then none else loopP (P.b3f k g3) k (x2.1,x2.2.1,nrm (hd0 x2.2.2.1) (in0 x2.2.2.1),x2.1,())else if dup (List.map (fun(y50:Nat×Nat)=>y50.1) (hd0 x2.2.2.1))then none else loopP P.b1t k (0,x2.2.1,[],nrm (hd0 x2.2.2.1) (in0 x2.2.2.1),())
def P.c6g (k:Nat) (x:List (List RB×Nat)×Unit):s_l03Solve.A:=
 if dup (List.map (fun(y0:Nat×Nat)=>y0.1) (hd0 x.1))then none else loopP (P.b3g k) k (0,(List.length (hd0 x.1):Int),nrm (hd0 x.1) (in0 x.1),())
theorem sv_mul {a b:Q3} (ha:okq a) (hb:okq b):S.a7o (((rp B10 a).1,(rp B10 a).2.1,(rp B10 a).2.2),((rp B10 b).1,(rp B10 b).2.1,(rp B10 b).2.2),())=some (rp B10 (b9a a b),()):=rs_mul ha.1 ha.2 hb.1 hb.2 (Nat.le_refl _) (Nat.le_refl _)
theorem sv_sub {a b:Q3} (ha:okq a) (hb:okq b):S.a4b (((rp B10 a).1,(rp B10 a).2.1,(rp B10 a).2.2),((rp B10 b).1,(rp B10 b).2.1,(rp B10 b).2.2),())=some (rp B10 (a9p a (b7r b)),()):=rs_sub ha.1 ha.2 hb.1 hb.2 (Nat.le_refl _) (Nat.le_refl _)
theorem f8c {a b:Q3} (ha:okq a) (hb:okq b) (h0:b.2.1≠0):S.a6d (((rp B10 a).1,(rp B10 a).2.1,(rp B10 a).2.2),((rp B10 b).1,(rp B10 b).2.1,(rp B10 b).2.2),())=some (rp B10 (a2s a b),()):=rs_over ha.1 ha.2 hb.1 hb.2 h0 (Nat.le_refl _) (Nat.le_refl _)
theorem f8d (q:Q3):S.b0e (((rp B10 q).1,(rp B10 q).2.1,(rp B10 q).2.2),())=some (decide (q.2.1=0),()):=by
 unfold S.b0e P.c0o rp;dsimp only;congr 2;rw[Bool.eq_iff_iff,beq_iff_eq,decide_eq_true_iff,<-d0p (B:=B10) (by decide),<-List.length_eq_zero_iff];omega
def svM (b:Nat->Nat->Q3) (k r j:Nat):Nat->Nat->Q3:=fun x y=>if x<r\/(x=r/\y<j)then elF true b k x y else b x y
theorem f8e (b:Nat->Nat->Q3) (k r:Nat) (h:r=k\/(b r k).2.1=0):svM b k r 0=svM b k (r+1) 0:=by
 funext x y;unfold svM
 by_cases w:x<r
 ·rw[if_pos (Or.inl w),if_pos (Or.inl (by omega))]
 ·by_cases w2:x=r
  ·subst w2;rw[if_neg (by omega),if_pos (Or.inl (by omega))];unfold elF;rw[if_neg (fun q=>by
    rcases h with h|h
    ·rcases q.1 with q|q
     ·omega
     ·exact q.2 h
    ·exact q.2.1 h)]
  ·rw[if_neg (by omega),if_neg (by omega)]
theorem g3v (b:Nat->Nat->Q3) {n k r:Nat} :om B10 n (n+1) (svM b k r (n+1))=om B10 n (n+1) (svM b k (r+1) 0):=b8n fun x hx y hy=>by
 unfold svM
 by_cases w:x<r\/(x=r/\y<n+1)
 ·rw[if_pos w,if_pos (by omega)]
 ·rw[if_neg w,if_neg (by omega)]
theorem g3w {b:Nat->Nat->Q3} {n k:Nat} (h:elOk b n k) {r:Nat} (hr:r<n) (hrk:r≠k) (hf:(b r k).2.1≠0) (g) {K:Nat} (hK:13<K):
  loopP (P.a8b g) K ((k:Int),(n:Int),om B10 n (n+1) (svM b k r 0),(r:Int),rp B10 (a2s (b r k) (b k k)),(k:Int),())=g (((r+1:Nat):Int),(n:Int),(k:Int),om B10 n (n+1) (svM b k (r+1) 0),()):=by
 obtain⟨kn,n12,hnum,hp,hF,hM⟩:=h;have hstart:svM b k r 0=svM b k r k:=by
  funext x y;unfold svM
  by_cases w:x<r
  ·rw[if_pos (Or.inl w),if_pos (Or.inl w)]
  ·rw[if_neg (by omega)]
   by_cases w2:x=r/\y<k
   ·rw[if_pos (Or.inr w2)];unfold elF;rw[if_neg (fun q=>by omega)]
   ·rw[if_neg (fun q=>q.elim w w2)]
 rw[hstart]
 have key:=g0w (k:=K) (b:=P.a8b g) (s:=k) (n:=n+1) (st:=fun j=>((j:Int),(n:Int),om B10 n (n+1) (svM b k r j),(r:Int),rp B10 (a2s (b r k) (b k k)),(k:Int),())) (F:=fun _=>g (((r+1:Nat):Int),(n:Int),(k:Int),om B10 n (n+1) (svM b k (r+1) 0),())) (by omega) (fun j g' hkj hj hg=>by
  unfold P.a8b;dsimp only at hg ⊢;have e1:(j:Int)<=(n:Int):=by omega
  have e2:(0:Int)<=(j:Int):=by omega
  have e3:(0:Int)<=(r:Int):=by omega
  have e4:(r:Int)<(n:Int):=by omega
  have e5:(0:Int)<=(k:Int):=by omega
  have e6:(k:Int)<(n:Int):=by omega
  have e7:(j:Int)<((n+1:Nat):Int):=by omega
  have v2:svM b k r j k j=b k j:=by
   unfold svM
   by_cases w:k<r\/(k=r/\j<j)
   ·rw[if_pos w];unfold elF;rw[if_neg (fun q=>by
     rcases q.1 with q|q
     ·omega
     ·exact q.2 rfl)]
   ·rw[if_neg w]
  have v3:svM b k r j r j=b r j:=by
   unfold svM;rw[if_neg (by omega)]
  have v5:g5j (svM b k r j) r j (a9p (b r j) (b7r (b9a (a2s (b r k) (b k k)) (b k j))))=svM b k r (j+1):=by
   funext x y;unfold g5j
   by_cases q:x=r/\y=j
   ·rw[if_pos q,q.1,q.2];unfold svM;rw[if_pos (Or.inr ⟨rfl,by omega⟩)];unfold elF;rw[if_pos ⟨Or.inr ⟨rfl,hrk⟩,hf,hkj⟩];rfl
   ·rw[if_neg q];unfold svM
    by_cases w:x<r\/(x=r/\y<j)
    ·rw[if_pos w,if_pos (by omega)]
    ·rw[if_neg w,if_neg (by omega)]
  simp only[a0v,a4w,Int.toNat_natCast,Nat.zero_add,c1r hr,c1r kn,c5g hr,c5g kn,b6y (show j<n+1 by omega),a2e,e1,e2,e3,e4,e5,e6,e7,decide_true,if_true,Bool.false_eq_true,if_false,v2,v3];rw[sv_mul (hF r hr) (hnum k kn j (by omega)),Option.bind_some];dsimp only;rw[sv_sub (hnum r hr j (by omega)) (hM r hr j (by omega)),Option.bind_some];dsimp only;rw[wr (by omega) (by omega)];show g' (_,_,nrm (hd0 _) ((in0 _).set r (((tab (n+1) (svM b k r j r)).map (rp B10)).set j (rp B10 _))),_)=_;rw[e0u hr,v5];exact hg) (fun g'=>by
  unfold P.a8b;dsimp only;rw[if_neg (by simp;omega),a2e,a2u,wr (by omega) (by omega),if_neg (by decide),g3v];rfl) (by omega)
 exact key
theorem sv_rows {b:Nat->Nat->Q3} {n k:Nat} (h:elOk b n k) (g) {K:Nat} (hK:13<K):
  loopP (P.a4s K g) K ((0:Int),(n:Int),(k:Int),om B10 n (n+1) b,())=g (((k+1:Nat):Int),(n:Int),om B10 n (n+1) (elF true b k),()):=by
 have h':=h;obtain⟨kn,n12,hnum,hp,hF,hM⟩:=h;have hstart:svM b k 0 0=b:=by
  funext x y;unfold svM;rw[if_neg (by omega)]
 have key:=a0g (k:=K) (b:=P.a4s K g) (n:=n) (st:=fun r=>((r:Int),(n:Int),(k:Int),om B10 n (n+1) (svM b k r 0),())) (F:=fun _=>g (((k+1:Nat):Int),(n:Int),om B10 n (n+1) (elF true b k),())) (fun r g' hr hg=>by
  unfold P.a4s;dsimp only at hg ⊢;have e1:(r:Int)<(n:Int):=by omega
  have e3:(0:Int)<=(r:Int):=by omega
  have e5:(0:Int)<=(k:Int):=by omega
  have e6:(k:Int)<(n:Int):=by omega
  have e7:(k:Int)<((n+1:Nat):Int):=by omega
  rw[if_pos (decide_eq_true e1)]
  by_cases hrk:r=k
  ·rw[if_pos (by rw[beq_iff_eq];omega),a2e,a2u,if_neg (by decide),wr (by omega) (by omega),<-hg,<-f8e b k r (Or.inl hrk)];rfl
  rw[if_neg (by rw[beq_iff_eq];omega)];have v1:svM b k r 0 r k=b r k:=by
   unfold svM;rw[if_neg (by omega)]
  have v2:svM b k r 0 k k=b k k:=by
   unfold svM
   by_cases w:k<r\/(k=r/\k<0)
   ·rw[if_pos w];unfold elF;rw[if_neg (fun q=>by
     rcases q.1 with q|q
     ·omega
     ·exact q.2 rfl)]
   ·rw[if_neg w]
  simp only[a0v,a4w,Int.toNat_natCast,Nat.zero_add,c1r hr,c1r kn,c5g hr,c5g kn,b6y (show k<n+1 by omega),a2e,a2u,e1,e3,e5,e6,e7,decide_true,if_true,Bool.false_eq_true,if_false,v1,v2];rw[f8d,Option.bind_some]
  by_cases hz:(b r k).2.1=0
  ·rw[if_pos (decide_eq_true hz),wr (by omega) (by omega),<-hg,<-f8e b k r (Or.inr hz)];rfl
  ·rw[if_neg (by simpa using hz),f8c (hnum r hr k (by omega)) (hnum k kn k (by omega)) hp,Option.bind_some];dsimp only;rw[<-hg];exact g3w h' hr hrk hz g' hK) (fun g'=>by
  unfold P.a4s;dsimp only;rw[if_neg (by simp),a2e,a2u,if_neg (by decide),wr (by omega) (by omega)];have:om B10 n (n+1) (svM b k n 0)=om B10 n (n+1) (elF true b k):=b8n fun x hx y hy=>by
   unfold svM;rw[if_pos (Or.inl hx)]
  rw[this];rfl) (by omega)
 rw[hstart]at key;exact key
theorem sv_swap {a:Nat->Nat->Q3} {r c i k:Nat} (hi:i<r) (hk:k<r):S.b7c (om B10 r c a,(i:Int),(k:Int),())=some ((),om B10 r c (swQ a i k),()):=by
 unfold S.b7c P.c5i;dsimp only;have e1:(0:Int)<=(i:Int):=by omega
 have e2:(i:Int)<(r:Int):=by omega
 have e3:(0:Int)<=(k:Int):=by omega
 have e4:(k:Int)<(r:Int):=by omega
 have hs:=om_swap (B:=B10) (c:=c) (a:=a) hi hk;have hp:∀p:Nat×Nat,(p.1,p.2)=p:=fun p=>rfl
 simp only[hp,a0v,a4w,List.length_set,Int.toNat_natCast,Nat.zero_add,hs,sw_dup,sw_nrm hi hk,e1,e2,e3,e4,decide_true,if_true,Bool.false_eq_true,if_false]
theorem f8f {a:Nat->Nat->Q3} {n k:Nat} (hk:k<n) (n12:n<=12) (g) {K:Nat} :∀(m i F:Nat),i+m=n->m<F->pvF (fun i=>decide ((a i k).2.1≠0)) m i<n->
  loopP (P.b3f K g) F ((i:Int),(n:Int),om B10 n (n+1) a,(k:Int),())=loopP (P.a4s K g) K ((0:Int),(n:Int),(k:Int),om B10 n (n+1) (swQ a k (pvF (fun i=>decide ((a i k).2.1≠0)) m i)),()):=by
 intro m
 induction m with
 |zero=>
  intro i F hi hF hp;unfold pvF at hp;omega
 |succ m ih=>
  intro i F hi hF hp;obtain⟨F,rfl⟩:∃j,F=j+1:=⟨F - 1,by omega⟩
  rw[a0k];have ih':=ih (i+1) F (by omega) (by omega);generalize loopP (P.b3f K g) F=g' at ih' ⊢;unfold P.b3f;dsimp only;have hin:i<n:=by omega
  have e1:(i:Int)<(n:Int):=by omega
  have e2:(0:Int)<=(i:Int):=by omega
  have e3:(0:Int)<=(k:Int):=by omega
  have e4:(k:Int)<((n+1:Nat):Int):=by omega
  simp only[a0v,a4w,Int.toNat_natCast,Nat.zero_add,c1r hin,c5g hin,b6y (show k<n+1 by omega),a2e,a2u,e1,e2,e3,e4,decide_true,if_true,Bool.false_eq_true,if_false];rw[f8d,Option.bind_some];unfold pvF at hp ⊢
  by_cases hz:(a i k).2.1=0
  ·have hd:¬(decide ((a i k).2.1≠0)=true):=by simp [hz]
   rw[if_neg hd]at hp ⊢;rw[if_pos (decide_eq_true hz),wr (by omega) (by omega)];exact ih' hp
  ·have hd:decide ((a i k).2.1≠0)=true:=decide_eq_true hz;rw[if_pos hd]at hp ⊢;rw[if_neg (by simpa using hz),if_neg (by rw[beq_iff_eq];omega),sv_swap hk hin,Option.bind_some]
open Classical in
def S.b3x (x:((List ((List RB)×Nat))×Unit)):(Option (((List RB)×Bool)×((List ((List RB)×Nat))×Unit))):=
 if h:∃(a:Nat->Nat->Q3) (n:Nat),x.1=om B10 n (n+1) a/\elsOk true a n then some (((tab h.choose_spec.choose (f5s h.choose h.choose_spec.choose)).map (rp B10),true),om B10 h.choose_spec.choose (h.choose_spec.choose+1) (elim true h.choose_spec.choose h.choose h.choose_spec.choose),())else none
theorem S.d9e (x r) (h:S.b3x x=some r):∃k,P.c6g k x=some r:=by
 obtain⟨m,u⟩:=x;unfold S.b3x at h;dsimp only at h;split at h
 case isFalse=>cases h
 rename_i hc;have hs:=hc.choose_spec.choose_spec;cases h;generalize hc.choose_spec.choose=n at*;generalize hc.choose=a at*;obtain⟨rfl,hr⟩:=hs;obtain⟨n12,hnum,hpiv,hel,hdia⟩:=hr;refine⟨14,?_⟩;unfold P.c6g;dsimp only;rw[a2e,a2u,a0v,a4w,if_neg (by decide)];have key:=a0g (k:=14) (b:=P.b3g 14) (n:=n) (st:=fun k=>((k:Int),(n:Int),om B10 n (n+1) (elim true n a k),())) (F:=fun _=>some (((tab n (f5s a n)).map (rp B10),true),om B10 n (n+1) (elim true n a n),())) (fun k g hk hg=>by
  unfold P.b3g;dsimp only at hg ⊢;rw[if_pos (decide_eq_true (by omega)),a2e,a2u,if_neg (by decide)];have hp:=(hpiv k hk).2.1;have he:=hel k hk;have hs:=f8f (a:=elim true n a k) hk n12 g (K:=14) (n - k) k 14 (by omega) (by omega) hp;rw[elim]at hg;rw[<-hg];exact hs.trans (sv_rows he g (by decide))) (fun g=>by
  unfold P.b3g;dsimp only;rw[if_neg (by simp),a2e,a2u,if_neg (by decide)];have key2:=a0g (k:=14) (b:=P.b1t) (n:=n) (st:=fun i=>((i:Int),(n:Int),(tab i (f5s a n)).map (rp B10),om B10 n (n+1) (elim true n a n),())) (F:=fun _=>some (((tab n (f5s a n)).map (rp B10),true),om B10 n (n+1) (elim true n a n),())) (fun i g' hi hg=>by
   unfold P.b1t;dsimp only at hg ⊢;have e1:(i:Int)<(n:Int):=by omega
   have e2:(0:Int)<=(i:Int):=by omega
   have e3:(0:Int)<=(n:Int):=by omega
   have e4:(n:Int)<((n+1:Nat):Int):=by omega
   have e5:(i:Int)<((n+1:Nat):Int):=by omega
   have e6:(i+1)*56<=140737488355328:=by omega
   simp only[a0v,a4w,Int.toNat_natCast,Nat.zero_add,c1r hi,c5g hi,b6y (show n<n+1 by omega),b6y (show i<n+1 by omega),a2e,a2u,e1,e2,e3,e4,e5,decide_true,if_true,Bool.false_eq_true,if_false];rw[f8c (hnum n (Nat.le_refl _) i hi n (Nat.le_refl _)) (hnum n (Nat.le_refl _) i hi i (by omega)) (hdia i hi),Option.bind_some];dsimp only;simp only[List.length_map,a1v,List.length_cons,List.length_nil,Nat.zero_add,e6,decide_true,if_true];rw[wr (by omega) (by omega)];rw[<-c5h]at hg;exact hg) (fun g'=>by
   unfold P.b1t;dsimp only;rw[if_neg (by simp),a2e,a2u,if_neg (by decide)]) (by omega)
  exact key2) (by omega)
 exact key
theorem solve_s {a:Nat->Nat->Q3} {n:Nat} (h:elsOk true a n):S.b3x (om B10 n (n+1) a,())=some (((tab n (f5s a n)).map (rp B10),true),om B10 n (n+1) (elim true n a n),()):=by
 unfold S.b3x;have hc:∃(b:Nat->Nat->Q3) (m:Nat),(om B10 n (n+1) a,()).1=om B10 m (m+1) b/\elsOk true b m:=⟨a,n,rfl,h⟩
 rw[dif_pos hc];obtain⟨e,hb⟩:=hc.choose_spec.choose_spec;dsimp only at e;generalize hc.choose_spec.choose=m at*;generalize hc.choose=b at*;obtain⟨e1,e2⟩:=om_inj a0e e;subst e1;have hab:∀i,i<n->∀j,j<=n->a i j=b i j:=fun i hi j hj=>(e2 i hi).2 j (by omega)
 have hg:=d7s (full:=true) hab (fun k hk=>(h.piv k hk).2.1) n (Nat.le_refl _);have hw:tab n (f5s b n)=tab n (f5s a n):=a1p fun i hi=>by
  unfold f5s;rw[hg i hi n (Nat.le_refl _),hg i hi i (by omega)]
 rw[hw,b8n fun i hi j hj=>hg i hi j (by omega)]
abbrev s_l03Rest.A:=Int×Int×List (List RB)×Int×List RB×List (List RB×Nat)×Unit
abbrev s_l03Rest.B:=Int×Int×List (List RB)×List (List RB×Nat)×Unit
abbrev s_l03Rest.C:=Option ((List RB×Bool)×Unit)
abbrev P.b1z (g3:s_l03Rest.B->s_l03Rest.C) (x6:s_l03Rest.A) (g7:s_l03Rest.A->s_l03Rest.C):s_l03Rest.C:=
 (fun(a b d:Int) (c:List (List RB)) (e:List RB) (f:List (List RB×Nat))=>if decide (a<b)then if decide (0<=a)then if decide (a<(c.length:Int))then if decide (0<=d)then if decide (d<(List.length (c.getD a.toNat []):Int))then if a==d then(S.b3p ()).bind fun y8=>(S.a4b (((List.getD (c.getD a.toNat []) d.toNat (false,[],[])).1,(List.getD (c.getD a.toNat []) d.toNat (false,[],[])).2.1,(List.getD (c.getD a.toNat []) d.toNat (false,[],[])).2.2),(y8.1.1,y8.1.2.1,y8.1.2.2),())).bind fun y9=>if d==(wrap .i64 (b - 1))then(S.b3p ()).bind fun y10=>if decide (((e.length+(List.length [(y10.1.1,y10.1.2.1,y10.1.2.2)]))*56)<=140737488355328)then if dup (List.map (fun(y11:Nat×Nat)=>y11.1) (hd0 f))then none else g7 (wrap .i64 (a+1),b,c,d,e++[(y10.1.1,y10.1.2.1,y10.1.2.2)],nrm (hd0 f) (in0 f),())else none else if decide (((e.length+(List.length [(y9.1.1,y9.1.2.1,y9.1.2.2)]))*56)<=140737488355328)then if dup (List.map (fun(y12:Nat×Nat)=>y12.1) (hd0 f))then none else g7 (wrap .i64 (a+1),b,c,d,e++[(y9.1.1,y9.1.2.1,y9.1.2.2)],nrm (hd0 f) (in0 f),())else none else if d==(wrap .i64 (b - 1))then(S.b3p ()).bind fun y13=>if decide (((e.length+(List.length [(y13.1.1,y13.1.2.1,y13.1.2.2)]))*56)<=140737488355328)then if dup (List.map (fun(y14:Nat×Nat)=>y14.1) (hd0 f))then none else g7 (wrap .i64 (a+1),b,c,d,e++[(y13.1.1,y13.1.2.1,y13.1.2.2)],nrm (hd0 f) (in0 f),())else none else if decide (((e.length+(List.length [((List.getD (c.getD a.toNat []) d.toNat (false,[],[])).1,(List.getD (c.getD a.toNat []) d.toNat (false,[],[])).2.1,(List.getD (c.getD a.toNat []) d.toNat (false,[],[])).2.2)]))*56)<=140737488355328)then if dup (List.map (fun(y15:Nat×Nat)=>y15.1) (hd0 f))then none else g7 (wrap .i64 (a+1),b,c,d,e++[((List.getD (c.getD a.toNat []) d.toNat (false,[],[])).1,(List.getD (c.getD a.toNat []) d.toNat (false,[],[])).2.1,(List.getD (c.getD a.toNat []) d.toNat (false,[],[])).2.2)],nrm (hd0 f) (in0 f),())else none else none else none else none else none else(S.a7u ()).bind fun y16=>if d==(wrap .i64 (b - 1))then(S.b3p ()).bind fun y17=>if decide (((e.length+(List.length [(y17.1.1,y17.1.2.1,y17.1.2.2)]))*56)<=140737488355328)then if decide ((((List.length (hd0 f))+(List.length (hd0 [(e++[(y17.1.1,y17.1.2.1,y17.1.2.2)],List.length (e++[(y17.1.1,y17.1.2.1,y17.1.2.2)]))])))*24)<=140737488355328)then if dup (List.map (fun(y18:Nat×Nat)=>y18.1) (b0t (List.length (in0 f)) (hd0 f) (hd0 [(e++[(y17.1.1,y17.1.2.1,y17.1.2.2)],List.length (e++[(y17.1.1,y17.1.2.1,y17.1.2.2)]))])))then none else g3 (wrap .i64 (d+1),b,c,nrm (b0t (List.length (in0 f)) (hd0 f) (hd0 [(e++[(y17.1.1,y17.1.2.1,y17.1.2.2)],List.length (e++[(y17.1.1,y17.1.2.1,y17.1.2.2)]))])) ((in0 f)++[e++[(y17.1.1,y17.1.2.1,y17.1.2.2)]]),())else none else none else if decide (((e.length+(List.length [(y16.1.1,y16.1.2.1,y16.1.2.2)]))*56)<=140737488355328)then if decide ((((List.length (hd0 f))+(List.length (hd0 [(e++[(y16.1.1,y16.1.2.1,y16.1.2.2)],List.length (e++[(y16.1.1,y16.1.2.1,y16.1.2.2)]))])))*24)<=140737488355328)then if dup (List.map (fun(y19:Nat×Nat)=>y19.1) (b0t (List.length (in0 f)) (hd0 f) (hd0 [(e++[(y16.1.1,y16.1.2.1,y16.1.2.2)],List.length (e++[(y16.1.1,y16.1.2.1,y16.1.2.2)]))])))then none else g3 (wrap .i64 (d+1),b,c,nrm (b0t (List.length (in0 f)) (hd0 f) (hd0 [(e++[(y16.1.1,y16.1.2.1,y16.1.2.2)],List.length (e++[(y16.1.1,y16.1.2.1,y16.1.2.2)]))])) ((in0 f)++[e++[(y16.1.1,y16.1.2.1,y16.1.2.2)]]),())else none else none) x6.1 x6.2.1 x6.2.2.2.1 x6.2.2.1 x6.2.2.2.2.1 x6.2.2.2.2.2.1
abbrev P.b5m (k:Nat) (x2:s_l03Rest.B) (g3:s_l03Rest.B->s_l03Rest.C):s_l03Rest.C:=
 if decide (x2.1<x2.2.1)then if dup (List.map (fun(y4:Nat×Nat)=>y4.1) (hd0 x2.2.2.2.1))then none else loopP (P.b1z g3) k (0,x2.2.1,x2.2.2.1,x2.1,[],nrm (hd0 x2.2.2.2.1) (in0 x2.2.2.2.1),())else if dup (List.map (fun(y20:Nat×Nat)=>y20.1) (hd0 x2.2.2.2.1))then none else(S.b3x (nrm (hd0 x2.2.2.2.1) (in0 x2.2.2.2.1),())).bind fun y21=>some ((y21.1.1,y21.1.2),())
def P.d1g (k:Nat) (x:List (List RB)×Unit):s_l03Rest.C:=
 (S.a9d (x.1,())).bind fun y0=>if(y0.1.2.length:Int) != 1 then some (([],false),())else loopP (P.b5m k) k (0,(x.1.length:Int),x.1,nrm (hd0 ([]:List (List RB×Nat))) (in0 ([]:List (List RB×Nat))),())
theorem f8g:S.b3p ()=some (rp B10 c3z,()):=by rfl
theorem g3x:S.a7u ()=some (rp B10 a2c,()):=by rfl
theorem rsr_row {M:List (List Q3)} (h:b9b M) {j:Nat} (hj:j<M.length) (g) {K:Nat} (hK:12<K):
  loopP (P.b1z g) K ((0:Int),(M.length:Int),mp B10 M,(j:Int),([]:List (Bool×(List Int×List Int))),om B10 j (M.length+1) (a9f M),())=g (((j+1:Nat):Int),(M.length:Int),mp B10 M,om B10 (j+1) (M.length+1) (a9f M),()):=by
 have hn:=h.2.1.1;have key:=a0g (k:=K) (b:=P.b1z g) (n:=M.length) (st:=fun i=>((i:Int),(M.length:Int),mp B10 M,(j:Int),(tab i (a9f M j)).map (rp B10),om B10 j (M.length+1) (a9f M),())) (F:=fun _=>g (((j+1:Nat):Int),(M.length:Int),mp B10 M,om B10 (j+1) (M.length+1) (a9f M),())) (fun i g' hi hg=>by
  unfold P.b1z;dsimp only at hg ⊢;have e1:(i:Int)<(M.length:Int):=by omega
  have e2:(0:Int)<=(i:Int):=by omega
  have e3:(0:Int)<=(j:Int):=by omega
  have e4:(j:Int)<(M.length:Int):=by omega
  have e7:(i+1)*56<=140737488355328:=by omega
  have e8:((mp B10 M).getD i []).getD j (false,(([]:List Int),([]:List Int)))=rp B10 (mq M i j):=g0z h.2.1 hi hj;have ha:=c5e h hi hj;have hv:a9f M j i=if j+1=M.length then c3z else if i=j then a9p (mq M i j) (b7r c3z)else mq M i j:=by
   unfold a9f;rw[if_neg (by omega)]
  have hmin:S.a4b (((rp B10 (mq M i j)).1,(rp B10 (mq M i j)).2.1,(rp B10 (mq M i j)).2.2),((rp B10 c3z).1,(rp B10 c3z).2.1,(rp B10 c3z).2.2),())=some (rp B10 (a9p (mq M i j) (b7r c3z)),()):=rs_sub ha.1 ha.2.1 b5k (d6t (n:=1) (by decide)) (by decide) (by decide);rw[<-c5h,hv]at hg;simp only[Int.toNat_natCast,a8a,g1a h.2.1 hi,List.length_map,a1v,List.length_cons,List.length_nil,Nat.zero_add,a2e,a2u,e1,e2,e3,e4,e7,e8,decide_true,if_true,Bool.false_eq_true,if_false];rw[wr (x:=(i:Int)+1) (by omega) (by omega),wr (x:=(M.length:Int) - 1) (by omega) (by omega),f8g,Option.bind_some,Option.bind_some,hmin,Option.bind_some];dsimp only
  by_cases hij:i=j
  ·rw[if_pos (by rw[beq_iff_eq];omega)]
   by_cases hjn:j+1=M.length
   ·rw[if_pos hjn]at hg;rw[if_pos (by rw[beq_iff_eq];omega)];exact hg
   ·rw[if_neg hjn,if_pos hij]at hg;rw[if_neg (by rw[beq_iff_eq];omega)];exact hg
  ·rw[if_neg (by rw[beq_iff_eq];omega)]
   by_cases hjn:j+1=M.length
   ·rw[if_pos hjn]at hg;rw[if_pos (by rw[beq_iff_eq];omega)];exact hg
   ·rw[if_neg hjn,if_neg hij]at hg;rw[if_neg (by rw[beq_iff_eq];omega)];exact hg) (fun g'=>by
  unfold P.b1z;dsimp only;have e1:(M.length+1)*56<=140737488355328:=by omega
  have e3:(j+1)*24<=140737488355328:=by omega
  have e2:= @om_app B10 j (M.length+1) (a9f M);have hv:a9f M j M.length=if j+1=M.length then c3z else a2c:=by
   unfold a9f;rw[if_pos rfl]
  rw[<-c5h,hv]at e2;rw[if_neg (by simp),g3x,Option.bind_some,wr (x:=(j:Int)+1) (by omega) (by omega),wr (x:=(M.length:Int) - 1) (by omega) (by omega),f8g,Option.bind_some];dsimp only;have hlen:∀q:Bool×(List Int×List Int),((tab M.length (a9f M j)).map (rp B10)++[q]).length=M.length+1:=fun q=>by simp [a1v]
  by_cases hjn:j+1=M.length
  ·rw[if_pos hjn]at e2;rw[if_pos (by rw[beq_iff_eq];omega)];have e4:((rp B10 c3z).1,(rp B10 c3z).2.1,(rp B10 c3z).2.2)=rp B10 c3z:=rfl;simp only[e4,hlen,a0v,a4w,List.length_map,a1v,List.length_cons,List.length_nil,Nat.zero_add,e1,e3,e2.1,e2.2,decide_true,if_true,Bool.false_eq_true,if_false];rfl
  ·rw[if_neg hjn]at e2;rw[if_neg (by rw[beq_iff_eq];omega)];have e4:((rp B10 a2c).1,(rp B10 a2c).2.1,(rp B10 a2c).2.2)=rp B10 a2c:=rfl;simp only[e4,hlen,a0v,a4w,List.length_map,a1v,List.length_cons,List.length_nil,Nat.zero_add,e1,e3,e2.1,e2.2,decide_true,if_true,Bool.false_eq_true,if_false];rfl) (by omega)
 exact key
open Classical in
def S.b6n (x:((List (List RB))×Unit)):(Option (((List RB)×Bool)×Unit)):=if ∃M,b9b M/\x.1=mp B10 M then some (((b2m (mv B10 x.1)).1.map (rp B10),(b2m (mv B10 x.1)).2),())else none
theorem S.e3u (x r) (h:S.b6n x=some r):∃k,P.d1g k x=some r:=by
 obtain⟨m,u⟩:=x;unfold S.b6n at h;dsimp only at h;split at h
 case isFalse=>cases h
 rename_i hc;obtain⟨M,hM,rfl⟩:=hc;cases h;rw[b6m (by decide)];have hI:=hM.2.1;have hn:=hI.1;refine⟨13,?_⟩;unfold P.d1g;dsimp only;have ec:S.a9d (mp B10 M,())=some (((b4x M).1,a5w 0 (b4x M).2),()):=by
  unfold S.a9d;dsimp only;rw[if_pos ⟨M,hI,rfl⟩,b6m (by decide)]
 rw[ec,Option.bind_some];dsimp only
 by_cases h1:(a5w 0 (b4x M).2).length=1
 case neg=>
  rw[if_pos (by simpa using(show ¬((a5w 0 (b4x M).2).length:Int)=1 by omega)),c7e h1];rfl
 rw[if_neg (by simpa using(show((a5w 0 (b4x M).2).length:Int)=1 by omega))];obtain⟨k,hk⟩:=f0p h1;rw[d3t hk,a2u,a8a];have hels:=elsOk_of (full:=true) rfl hn (f5j hM) (d7q hM hk);have key:=a0g (k:=13) (b:=P.b5m 13) (n:=M.length) (st:=fun j=>((j:Int),(M.length:Int),mp B10 M,om B10 j (M.length+1) (a9f M),())) (F:=fun _=>some (((tab M.length (b2z M (clC M k))).map (rp B10),true),())) (fun j g hj hg=>by
  unfold P.b5m;dsimp only at hg ⊢;rw[if_pos (decide_eq_true (by omega)),a2e,a2u,if_neg (by decide),<-hg];exact rsr_row hM hj g (by decide)) (fun g=>by
  unfold P.b5m;dsimp only;rw[if_neg (by simp),a2e,a2u,if_neg (by decide),solve_s hels,Option.bind_some];dsimp only;rw[a1p fun i hi=>g0u hM hk i hi]) (by omega)
 exact key
def P.b3h (k:Nat) (x:List (List ByteArray)×List ByteArray×Int×Unit):Option ((ByteArray×Bool)×Unit):=
 (S.b7b (x.1,x.2.1,x.2.2.1,())).bind fun y0=>if !y0.1.2.2 then some ((bs [],false),())else(S.b6n (y0.1.1,())).bind fun y1=>if !y1.1.2 then some ((bs [],false),())else(S.a7n (y0.1.2.1,y1.1.1,())).bind fun y2=>(S.b4c ((y2.1.1,y2.1.2.1,y2.1.2.2),())).bind fun y3=>some ((y3.1.1,y3.1.2),())
def S.a9r (x:((List (List ByteArray))×((List ByteArray)×(Int×Unit)))):(Option ((ByteArray×Bool)×Unit)):=P.b3h 0 x
theorem S.c8f (x r) (h:S.a9r x=some r):∃k,P.b3h k x=some r:=⟨0,h⟩
def P.i_in (k:Nat) (x:Int×Int×Int×Unit):Option (Bool×Unit):=
 if decide (x.1>=x.2.1)then some (decide (x.1<=x.2.2.1),())else some (false,())
def S.i_in (x:(Int×(Int×(Int×Unit)))):(Option (Bool×Unit)):=P.i_in 0 x
theorem S.i_in_ok (x r) (h:S.i_in x=some r):∃k,P.i_in k x=some r:=⟨0,h⟩
def S.a4p (x:(Int×(Int×Unit))):(Option (ByteArray×Unit)):=if x.2.1=10/\0<=x.1/\x.1<18446744073709551616 then some (⟨(Go.Lib.decDigits x.1.toNat).toArray⟩,())else none
def g3y (xs:List ByteArray) (sep:ByteArray):List UInt8:=Go.Lib.join (xs.map (·.data.toList)) sep.data.toList
def S.b2a (x:((List ByteArray)×(ByteArray×Unit))):(Option (ByteArray×Unit)):=if x.1.length<=140737488355328/\(g3y x.1 x.2.1).length<=140737488355328 then some (⟨(g3y x.1 x.2.1).toArray⟩,())else none
def S.a8c (x:(ByteArray×(Int×Unit))):(Option (ByteArray×Unit)):=if 0<=x.2.1/\x.2.1<=1000000/\x.1.size<=1000000 then some (⟨(Go.Lib.repeatL x.1.data.toList x.2.1.toNat).toArray⟩,())else none
abbrev P.a1x (x1:Int×Int×List ByteArray×Unit) (g2:Int×Int×List ByteArray×Unit->Option (Unit×List ByteArray×Unit)):Option (Unit×List ByteArray×Unit):=
 (fun(a b:Int) (c:List ByteArray)=>if decide (a<b)then if decide (0<=b)then if decide (b<(c.length:Int))then if decide (0<=a)then if decide (a<(c.length:Int))then if decide (0<=a)then if decide (a<(c.length:Int))then if decide (0<=b)then if decide (b<(List.length (c.set (0+a.toNat) (c.getD (0+b.toNat) (bs []))):Int))then g2 (wrap .i64 (a+1),wrap .i64 (b - 1),List.set (c.set (0+a.toNat) (c.getD (0+b.toNat) (bs []))) (0+b.toNat) (c.getD (0+a.toNat) (bs [])),())else none else none else none else none else none else none else none else none else some ((),c,())) x1.1 x1.2.1 x1.2.2.1
def P.a3n (k:Nat) (x:List ByteArray×Unit):Option (Unit×List ByteArray×Unit):=
 loopP P.a1x k (0,wrap .i64 ((x.1.length:Int) - 1),x.1,())
def rvd (xs:List ByteArray) (t:Nat):List ByteArray:=(List.range xs.length).map fun p=>if p<t\/xs.length - t<=p then xs.getD (xs.length - 1 - p) (bs [])else xs.getD p (bs [])
theorem b7y (xs:List ByteArray) (t:Nat):(rvd xs t).length=xs.length:=by simp [rvd]
theorem c6h (xs:List ByteArray) (t p:Nat) (h:p<xs.length):(rvd xs t).getD p (bs [])=if p<t\/xs.length - t<=p then xs.getD (xs.length - 1 - p) (bs [])else xs.getD p (bs []):=by
 unfold rvd;rw[List.getD_eq_getElem?_getD,List.getElem?_map,List.getElem?_range h];rfl
theorem d9f {xs ys:List ByteArray} (hl:xs.length=ys.length) (h:∀p,p<xs.length->xs.getD p (bs [])=ys.getD p (bs [])):xs=ys:=by
 apply List.ext_getElem hl;intro i h1 h2;have:=h i h1;simpa [h1,h2]using this
theorem rvd_end (xs:List ByteArray):rvd xs (xs.length/2)=xs.reverse:=by
 apply d9f (by rw[b7y,List.length_reverse]);intro p hp;rw[b7y]at hp;rw[c6h _ _ _ hp];have e:xs.reverse.getD p (bs [])=xs.getD (xs.length - 1 - p) (bs []):=by
  rw[List.getD_eq_getElem?_getD,List.getElem?_reverse hp,<-List.getD_eq_getElem?_getD]
 rw[e];split
 ·rfl
 ·rename_i hq;have:xs.length - 1 - p=p:=by omega
  rw[this]
theorem e3v (l:List ByteArray) (i p:Nat) (v:ByteArray) (h:p<l.length):(l.set i v).getD p (bs [])=if p=i then v else l.getD p (bs []):=by
 rw[List.getD_eq_getElem?_getD,List.getElem?_set]
 by_cases e:i=p
 ·subst e;simp [h]
 ·rw[if_neg e,if_neg (fun q=>e q.symm),<-List.getD_eq_getElem?_getD]
theorem g3z (xs:List ByteArray) (t:Nat) (ht:t<xs.length/2):((rvd xs t).set t ((rvd xs t).getD (xs.length - 1 - t) (bs []))).set (xs.length - 1 - t) ((rvd xs t).getD t (bs []))=rvd xs (t+1):=by
 apply d9f (by simp [b7y]);intro p hp;simp only[List.length_set,b7y]at hp;rw[e3v _ _ _ _ (by simp [b7y];exact hp),e3v _ _ _ _ (by rw[b7y];exact hp),c6h _ _ _ hp,c6h _ _ _ hp,c6h _ _ _ (show t<xs.length by omega),c6h _ _ _ (show xs.length - 1 - t<xs.length by omega)];rw[if_neg (show ¬(t<t\/xs.length - t<=t) by omega),if_neg (show ¬(xs.length - 1 - t<t\/xs.length - t<=xs.length - 1 - t) by omega)]
 by_cases h1:p=xs.length - 1 - t
 ·rw[if_pos h1,if_pos (by omega)];congr 1;omega
 ·rw[if_neg h1]
  by_cases h2:p=t
  ·rw[if_pos h2,if_pos (by omega)];congr 1;omega
  ·rw[if_neg h2]
   by_cases h3:p<t\/xs.length - t<=p
   ·rw[if_pos h3,if_pos (by omega)]
   ·rw[if_neg h3,if_neg (by omega)]
def S.a0y (x:((List ByteArray)×Unit)):(Option (Unit×((List ByteArray)×Unit))):=if x.1.length<=1000000000 then some ((),(x.1.reverse,()))else none
theorem S.b0l (x r) (h:S.a0y x=some r):∃k,P.a3n k x=some r:=by
 obtain⟨xs,u⟩:=x;unfold S.a0y at h;dsimp only at h;split at h
 case isFalse=>cases h
 rename_i hl;cases h;refine⟨xs.length/2+1,?_⟩;unfold P.a3n;dsimp only;rw[wr (by omega) (by omega)];have key:=a0g (k:=xs.length/2+1) (b:=P.a1x) (n:=xs.length/2) (st:=fun t=>((t:Int),(xs.length:Int) - 1 - (t:Int),rvd xs t,())) (F:=fun t=>some ((),(xs.reverse,()))) (fun t g ht hg=>by
  unfold P.a1x;dsimp only at hg ⊢;have e5:(xs.length:Int) - 1 - (t:Int)=((xs.length - 1 - t:Nat):Int):=by omega
  rw[e5];have e1:(t:Int)<((xs.length - 1 - t:Nat):Int):=by omega
  have e2:(0:Int)<=((xs.length - 1 - t:Nat):Int):=by omega
  have e3:((xs.length - 1 - t:Nat):Int)<(xs.length:Int):=by omega
  have e4:(0:Int)<=(t:Int):=by omega
  have e6:(t:Int)<(xs.length:Int):=by omega
  simp only[b7y,List.length_set,e1,e2,e3,e4,e6,decide_true,if_true,Int.toNat_natCast,Nat.zero_add];rw[g3z xs t ht,wr (by omega) (by omega),wr (by omega) (by omega),<-hg];congr 1
  all_goals (simp only[Prod.mk.injEq];and_intros<;>first|rfl|omega|trivial)) (fun g=>by
  unfold P.a1x;dsimp only;rw[if_neg (by simp;omega),rvd_end]) (by omega)
 have e0:rvd xs 0=xs:=by
  apply d9f (b7y _ _);intro p hp;rw[b7y]at hp;rw[c6h _ _ _ hp,if_neg (by omega)]
 rw[show(xs.length:Int) - 1 - ((0:Nat):Int)=(xs.length:Int) - 1 by omega,e0]at key;exact key
abbrev P.b3i (x1:List Int×Unit) (g2:List Int×Unit->Option (List Int×Unit)):Option (List Int×Unit):=
 if decide ((x1.1.length:Int)>0)then if decide (0<=(wrap .i64 ((x1.1.length:Int) - 1)))then if decide ((wrap .i64 ((x1.1.length:Int) - 1))<(x1.1.length:Int))then if(x1.1.getD (Int.toNat (wrap .i64 ((x1.1.length:Int) - 1))) 0)==0 then if decide (0<=(wrap .i64 ((x1.1.length:Int) - 1)))then if decide ((wrap .i64 ((x1.1.length:Int) - 1))<=(x1.1.length:Int))then if decide (0<=(wrap .i64 ((x1.1.length:Int) - 1)))then g2 (seen x1.1 0 ((Int.toNat (wrap .i64 ((x1.1.length:Int) - 1))) - 0),())else none else none else none else some (x1.1,())else none else none else some (x1.1,())
def P.d6z (k:Nat) (x:List Int×Unit):Option (List Int×Unit):=
 loopP P.b3i k (x.1,())
theorem f8h (n:Nat):∀(xs:List Int) (k:Nat),xs.length=n->n<k->n<=1000000000000->dig B32 xs=true->loopP (X:=((List Int)×Unit)) (R:=((List Int)×Unit)) P.b3i k (xs,())=some (nd B32 (a0c B32 xs),()):=by
 induction n with
 |zero=>
  intro xs k hx hk _ _;have:xs=[]:=List.eq_nil_of_length_eq_zero hx;subst this;obtain⟨k,rfl⟩:∃j,k=j+1:=⟨k - 1,by omega⟩
  rw[a0k];unfold P.b3i;rw[if_neg (by simp)];rw[show a0c B32 []=0 from rfl,a1t a0d]
 |succ n ih=>
  intro xs k hx hk hn hd;obtain⟨k,rfl⟩:∃j,k=j+1:=⟨k - 1,by omega⟩
  rw[a0k];unfold P.b3i;dsimp only;have e0:IntKind.wrap .i64 ((xs.length:Int) - 1)=(n:Int):=by rw[wr (by omega) (by omega)];omega
  have e1:(xs.length:Int)>0:=by omega
  have e2:(0:Int)<=(n:Int):=by omega
  have e3:(n:Int)<(xs.length:Int):=by omega
  have e4:(n:Int)<=(xs.length:Int):=by omega
  rw[e0];simp only[e1,e2,e3,e4,decide_true,if_true];rw[a0m xs n _ (by omega)];have hs:=c3r xs n hx;have hdt:dig B32 (xs.take n++[xs[n]])=true:=by rw[<-hs];exact hd
  by_cases hz:xs[n]=0
  ·rw[if_pos (by simp [hz])];have e5:seen xs 0 ((n:Int).toNat - 0)=xs.take n:=by simp [seen]
   rw[e5];have hdt':=hdt;rw[a1j,Bool.and_eq_true]at hdt';rw[ih (xs.take n) k (by simp;omega) (by omega) (by omega) hdt'.1];have:a0c B32 xs=a0c B32 (xs.take n):=by
    conv=>lhs;rw[hs,hz]
    exact b1o _
   rw[this]
  ·rw[if_neg (by simp [hz])];have:=d0g a0d (xs.take n) xs[n] hdt hz;rw[<-hs]at this;rw[this]
def S.a3z (x:((List Int)×Unit)):(Option ((List Int)×Unit)):=if dig B32 x.1=true/\x.1.length<=1000000000000 then some (nd B32 (a0c B32 x.1),())else none
theorem S.d9g (x r) (h:S.a3z x=some r):∃k,P.d6z k x=some r:=by
 obtain⟨xs,u⟩:=x;unfold S.a3z at h;dsimp only at h;split at h
 case isFalse=>cases h
 rename_i hc;cases h;exact⟨xs.length+1,f8h xs.length xs _ rfl (by omega) hc.2 hc.1⟩
theorem f8i (xs:List Int) (h:dig B32 xs=true) (hl:xs.length<=1000000000000):S.a3z (xs,())=some (nd B32 (a0c B32 xs),()):=by
 unfold S.a3z;dsimp only;rw[if_pos ⟨h,hl⟩]
abbrev P.a7h (x1:Int×Int×List Int×List Int×Int×Unit) (g2:Int×Int×List Int×List Int×Int×Unit->Option ((List Int×Int)×Unit)):Option ((List Int×Int)×Unit):=
 (fun(a b e:Int) (c d:List Int)=>if decide (a>=0)then if decide (0<=a)then if decide (a<(c.length:Int))then if decide ((wrap .u64 e)=0)then none else if decide (0<=a)then if decide (a<(d.length:Int))then if decide ((wrap .u64 e)=0)then none else g2 (wrap .i64 (a - 1),Int.tmod (wrap .u64 ((wrap .u64 (b*4294967296))+(wrap .u64 (c.getD a.toNat 0)))) (wrap .u64 e),c,d.set (0+a.toNat) (wrap .u32 (wrap .u64 (Int.tdiv (wrap .u64 ((wrap .u64 (b*4294967296))+(wrap .u64 (c.getD a.toNat 0)))) (wrap .u64 e)))),e,())else none else none else none else none else(S.a3z (d,())).bind fun y3=>some ((y3.1,wrap .u32 b),())) x1.1 x1.2.1 x1.2.2.2.2.1 x1.2.2.1 x1.2.2.2.1
def P.b6d (k:Nat) (x:List Int×Int×Unit):Option ((List Int×Int)×Unit):=
 if decide (0<=(x.1.length:Int))then if decide ((x.1.length:Int)<=(x.1.length:Int))then if decide (((x.1.length:Int)*4)<=281474976710656)then loopP P.a7h k (wrap .i64 ((x.1.length:Int) - 1),0,x.1,List.replicate (Int.toNat (x.1.length:Int)) 0,x.2.1,())else none else none else none
def S.a3d (x:((List Int)×(Int×Unit))):(Option (((List Int)×Int)×Unit)):=if dig B32 x.1=true/\0<x.2.1/\x.2.1<4294967296/\x.1.length<=1000000000000 then some ((nd B32 (a0c B32 x.1/x.2.1.toNat),((a0c B32 x.1%x.2.1.toNat:Nat):Int)),())else none
theorem S.c6i (x r) (h:S.a3d x=some r):∃k,P.b6d k x=some r:=by
 obtain⟨xs,b,u⟩:=x;unfold S.a3d at h;dsimp only at h;split at h
 case isFalse=>cases h
 rename_i hc;obtain⟨hd,hb0,hb1,hl⟩:=hc;cases h;refine⟨xs.length+1,?_⟩;unfold P.b6d;dsimp only;have a1:(0:Int)<=(xs.length:Int):=by omega
 have a2:(xs.length:Int)<=(xs.length:Int):=by omega
 have a3:(xs.length:Int)*4<=281474976710656:=by omega
 simp only[a1,a2,a3,decide_true,if_true];rw[wr (by omega) (by omega),Int.toNat_natCast];have hdr:∀m,dig B32 (xs.drop m)=true:=by
  intro m;have:=List.take_append_drop m xs;have hd':=hd;rw[<-this,a1j,Bool.and_eq_true]at hd';exact hd'.2
 have hbN:0<b.toNat:=by omega
 have key:=a0g (k:=xs.length+1) (b:=P.a7h) (n:=xs.length) (st:=fun j=>((xs.length:Int) - 1 - (j:Int),((c9e B32 b.toNat (xs.drop (xs.length - j))).2:Int),xs,List.replicate (xs.length - j) (0:Int)++(c9e B32 b.toNat (xs.drop (xs.length - j))).1,b,())) (F:=fun j=>some ((nd B32 (a0c B32 xs/b.toNat),((a0c B32 xs%b.toNat:Nat):Int)),())) (fun j g hj hg=>by
  unfold P.a7h;dsimp only at hg ⊢;obtain⟨q1,q2,q3,q4⟩:=d8p B32 b.toNat hbN (xs.drop (xs.length - j)) (hdr _);have hi:xs.length - (j+1)<xs.length:=by omega
  have e5:(xs.length:Int) - 1 - (j:Int)=((xs.length - (j+1):Nat):Int):=by omega
  have e6:xs.drop (xs.length - (j+1))=xs[xs.length - (j+1)]::xs.drop (xs.length - j):=by
   rw[List.drop_eq_getElem_cons hi];congr 2;omega
  have e7:xs.length - j=(xs.length - (j+1))+1:=by omega
  have hlen:(List.replicate (xs.length - j) (0:Int)++(c9e B32 b.toNat (xs.drop (xs.length - j))).1).length=xs.length:=by
   rw[List.length_append,List.length_replicate,q2,List.length_drop];omega
  have hx:=b5y hd hi;have hx1:xs[xs.length - (j+1)]<4294967296:=hx.2;have hx0:=hx.1;have hm:(c9e B32 b.toNat (xs.drop (xs.length - j))).2<b.toNat:=by rw[q4];exact Nat.mod_lt _ hbN
  rw[e6]at hg;rw[hlen,e5,a0m xs _ _ hi];have a1:((xs.length - (j+1):Nat):Int)>=0:=by omega
  have a2:(0:Int)<=((xs.length - (j+1):Nat):Int):=by omega
  have a3:((xs.length - (j+1):Nat):Int)<(xs.length:Int):=by omega
  rw[wu (x:=b) (by omega) (by omega)];have a4:¬(b=0):=by omega
  simp only[a1,a3,a4,decide_true,decide_false,if_true,if_false,Bool.false_eq_true];generalize hR:(c9e B32 b.toNat (xs.drop (xs.length - j))).2=R at*;generalize hX:xs[xs.length - (j+1)]=X at*;have hRX:(R:Int)*4294967296+X<b*4294967296:=by omega
  rw[wu (x:=(R:Int)*4294967296) (by omega) (by omega),wu (x:=X) (by omega) (by omega),wu (x:=(R:Int)*4294967296+X) (by omega) (by omega)];have eT:Int.tdiv ((R:Int)*4294967296+X) b=(((R*B32+X.toNat)/b.toNat:Nat):Int):=by
   rw[Int.tdiv_eq_ediv_of_nonneg (by omega)];have:(R:Int)*4294967296+X=((R*4294967296+X.toNat:Nat):Int):=by omega
   rw[this];have hb:b=((b.toNat:Nat):Int):=by omega
   conv=>lhs;rw[hb]
   exact(Int.natCast_ediv _ _).symm
  have eM:Int.tmod ((R:Int)*4294967296+X) b=(((R*B32+X.toNat)%b.toNat:Nat):Int):=by
   rw[Int.tmod_eq_emod_of_nonneg (by omega)];have:(R:Int)*4294967296+X=((R*4294967296+X.toNat:Nat):Int):=by omega
   rw[this];have hb:b=((b.toNat:Nat):Int):=by omega
   conv=>lhs;rw[hb]
   exact(Int.natCast_emod _ _).symm
  have hQ:(R*B32+X.toNat)/b.toNat<B32:=(Nat.div_lt_iff_lt_mul hbN).2 (by
   show R*4294967296+X.toNat<4294967296*b.toNat;omega)
  have hQ':(R*B32+X.toNat)/b.toNat<4294967296:=hQ;have z0:(0:Int)<=(((R*B32+X.toNat)/b.toNat:Nat):Int):=Int.natCast_nonneg _;have z1:(((R*B32+X.toNat)/b.toNat:Nat):Int)<4294967296:=Int.ofNat_lt.2 hQ';rw[eT,eM,wu z0 (Int.lt_trans z1 (by decide)),w32 z0 z1,wr (x:=((xs.length - (j+1):Nat):Int) - 1) (by omega) (by omega),Nat.zero_add,Int.toNat_natCast];have hset:∀(Q:List Int) (v:Int),(List.replicate (xs.length - j) (0:Int)++Q).set (xs.length - (j+1)) v=List.replicate (xs.length - (j+1)) 0++v::Q:=by
   intro Q v;rw[e7];exact d8q _ _ _
  rw[hset,<-hg];congr 1;simp only[Prod.mk.injEq,c9e];rw[hR]
  and_intros<;>first|rfl|omega|trivial) (fun g=>by
  unfold P.a7h;dsimp only;obtain⟨q1,q2,q3,q4⟩:=d8p B32 b.toNat hbN xs hd;rw[if_neg (by simp;omega),Nat.sub_self,List.drop_zero,List.replicate_zero,List.nil_append,f8i _ q1 (by omega),Option.bind_some,q3,q4];have hm:=Nat.mod_lt (a0c B32 xs) hbN;rw[w32 (by omega) (by omega)]) (by omega)
 rw[show(xs.length:Int) - 1 - ((0:Nat):Int)=(xs.length:Int) - 1 by omega,Nat.sub_zero,List.drop_length]at key;simpa [c9e]using key
abbrev P.b7z (x1:List Int×List ByteArray×Unit) (g2:List Int×List ByteArray×Unit->Option (ByteArray×Unit)):Option (ByteArray×Unit):=
 if decide ((x1.1.length:Int)>0)then(S.a3d (x1.1,1000000000,())).bind fun y3=>(S.a4p (wrap .u64 y3.1.2,10,())).bind fun y4=>if decide ((y3.1.1.length:Int)>0)then(S.a8c (bs [48],wrap .i64 (9 - (y4.1.size:Int)),())).bind fun y5=>if decide ((y5.1.size+y4.1.size)<=9223372036854775807)then if decide (((x1.2.1.length+(List.length [y5.1++y4.1]))*16)<=140737488355328)then g2 (y3.1.1,x1.2.1++[y5.1++y4.1],())else none else none else if decide (((x1.2.1.length+(List.length [y4.1]))*16)<=140737488355328)then g2 (y3.1.1,x1.2.1++[y4.1],())else none else(S.a0y (x1.2.1,())).bind fun y6=>(S.b2a (splice x1.2.1 y6.2.1 0,bs [],())).bind fun y7=>some (y7.1,())
def P.c6j (k:Nat) (x:List Int×Unit):Option (ByteArray×Unit):=
 if(x.1.length:Int)==0 then some (bs [48],())else loopP P.b7z k (x.1,[],())
def mkB (l:List UInt8):ByteArray:=⟨l.toArray⟩
theorem f4c (xs:List (List UInt8)):Go.Lib.join xs []=xs.flatten:=by
 cases xs with
 |nil=>rfl
 |cons x r=>
  rw[Go.Lib.join_cons,List.flatten_cons];congr 1;unfold Go.Lib.joinTail;simp
theorem it_loop (n:Nat):∀(acc:List ByteArray) (k:Nat),n<k->(nd B32 n).length<=40000000->acc.length+(a4g n).length<=1000000000->
  loopP P.b7z k (nd B32 n,(acc,()))=Option.bind (S.a0y (acc++(a4g n).map mkB,())) (fun y6=>Option.bind (S.b2a (Go.Cm.splice (acc++(a4g n).map mkB) y6.2.1 0,(bs [],()))) (fun y7=>some (y7.1,()))):=by
 induction n using Nat.strongRecOn with
 |ind n ih=>
  intro acc k hk hl hacc;obtain⟨k,rfl⟩:∃j,k=j+1:=⟨k - 1,by omega⟩
  rw[a0k];unfold P.b7z;dsimp only
  by_cases hn:n=0
  ·subst hn;rw[a1t a0d,b1q,if_neg (by simp),List.map_nil,List.append_nil]
  ·have hpos:((nd B32 n).length:Int)>0:=by
    rw[b4g a0d hn,List.length_cons];omega
   rw[if_pos (decide_eq_true hpos)];have sd:S.a3d (nd B32 n,(1000000000,()))=some ((nd B32 (n/1000000000),((n%1000000000:Nat):Int)),()):=by
    unfold S.a3d;dsimp only;rw[if_pos ⟨a4f a0d _,by omega,by omega,by omega⟩,a0i a0d];rfl
   rw[sd,Option.bind_some];dsimp only;have hm:n%1000000000<1000000000:=Nat.mod_lt _ (by decide);have sf:S.a4p (IntKind.wrap .u64 ((n%1000000000:Nat):Int),(10,()))=some (mkB (Go.Lib.decDigits (n%1000000000)),()):=by
    rw[wu (by omega) (by omega)];unfold S.a4p;dsimp only;rw[if_pos ⟨rfl,by omega,by omega⟩,Int.toNat_natCast];rfl
   rw[sf,Option.bind_some];dsimp only;obtain⟨p1,p2⟩:=f7e 9 (n%1000000000) (by decide) (by rw[show(10:Nat)^9=1000000000 by decide];exact hm);have hsz:(mkB (Go.Lib.decDigits (n%1000000000))).size=(Go.Lib.decDigits (n%1000000000)).length:=c5t _;have hsh:(nd B32 (n/1000000000)).length<=40000000:=by
    refine Nat.le_trans ?_ hl;rw[a4o a0d];exact Nat.lt_of_le_of_lt (Nat.div_le_self _ _) ((a4o a0d n _).1 (Nat.le_refl _))
   by_cases h1:n/1000000000=0
   ·rw[b3e hn h1,List.length_singleton]at hacc;have hmn:n%1000000000=n:=by omega
    have hc:(acc.length+ [mkB (Go.Lib.decDigits n)].length)*16<=140737488355328:=by
     rw[List.length_singleton];omega
    have hz:¬(((nd B32 0).length:Int)>0):=by rw[a1t a0d];simp
    have hi:=ih 0 (by omega) (acc++[mkB (Go.Lib.decDigits n)]) k (by omega) (by rw[a1t a0d];simp) (by rw[b1q];simp;omega);rw[h1,hmn,if_neg (by simpa using hz),if_pos (decide_eq_true hc),hi,b1q,b3e hn h1,List.map_nil,List.append_nil];rfl
   ·rw[b1r h1,List.length_cons]at hacc;have hz:((nd B32 (n/1000000000)).length:Int)>0:=by
     rw[b4g a0d h1,List.length_cons];omega
    have sr:S.a8c (bs [48],(IntKind.wrap .i64 (9 - (((mkB (Go.Lib.decDigits (n%1000000000))).size:Nat):Int)),()))=some (mkB (List.replicate (9 - (Go.Lib.decDigits (n%1000000000)).length) 48),()):=by
     rw[hsz,wr (by omega) (by omega)];unfold S.a8c;dsimp only;have h48:(bs [48]).data.toList=[48]:=rfl;rw[if_pos ⟨by omega,by omega,by decide⟩,h48,e8h,show((9:Int) - ((Go.Lib.decDigits (n%1000000000)).length:Int)).toNat=9 - (Go.Lib.decDigits (n%1000000000)).length by omega];rfl
    rw[if_pos (decide_eq_true hz),sr,Option.bind_some];dsimp only;have hsum:(mkB (List.replicate (9 - (Go.Lib.decDigits (n%1000000000)).length) 48)).size+(mkB (Go.Lib.decDigits (n%1000000000))).size<=9223372036854775807:=by
     rw[hsz,show(mkB (List.replicate (9 - (Go.Lib.decDigits (n%1000000000)).length) 48)).size=_ from c5t _,List.length_replicate];omega
    have happ:mkB (List.replicate (9 - (Go.Lib.decDigits (n%1000000000)).length) 48)++mkB (Go.Lib.decDigits (n%1000000000))=mkB (a6i 9 (n%1000000000)):=by
     rw[<-p1];exact c1t _ _
    have hc:(acc.length+ [mkB (a6i 9 (n%1000000000))].length)*16<=140737488355328:=by
     rw[List.length_singleton];omega
    have hi:=ih (n/1000000000) (by omega) (acc++[mkB (a6i 9 (n%1000000000))]) k (by omega) hsh (by simp;omega);rw[if_pos (decide_eq_true hsum),happ,if_pos (decide_eq_true hc),hi,b1r h1,List.map_cons,List.append_assoc];rfl
def S.b1c (x:((List Int)×Unit)):(Option (ByteArray×Unit)):=if a2y B32 x.1=true/\x.1.length<=40000000 then some (⟨(Go.Lib.decDigits (a0c B32 x.1)).toArray⟩,())else none
theorem S.d9h (x r) (h:S.b1c x=some r):∃k,P.c6j k x=some r:=by
 obtain⟨xs,u⟩:=x;unfold S.b1c at h;dsimp only at h;split at h
 case isFalse=>cases h
 rename_i hc;obtain⟨ca,la⟩:=hc;cases h;refine⟨a0c B32 xs+1,?_⟩;unfold P.c6j;dsimp only
 by_cases he:xs=[]
 ·subst he;rw[if_pos (by rfl),show a0c B32 []=0 from rfl,a7z (by decide)];rfl
 ·have hpos:0<xs.length:=List.length_pos_iff.2 he;have h0:a0c B32 xs≠0:=by
   intro q;have:=a1l ca;rw[q,a1t a0d]at this;exact he this.symm
  have hb:a0c B32 xs<B32^xs.length:=a1m (a1o ca);have hb2:a0c B32 xs<(10^10)^xs.length:=Nat.lt_of_lt_of_le hb (Nat.pow_le_pow_left (by decide) _);rw[<-Nat.pow_mul]at hb2;have hlen:(Go.Lib.decDigits (a0c B32 xs)).length<=10*xs.length:=e8g (by omega) hb2;have hb3:a0c B32 xs<B10^(2*xs.length):=by
   refine Nat.lt_of_lt_of_le hb ?_;rw[Nat.pow_mul];exact Nat.pow_le_pow_left (by decide) _
  have hparts:(a4g (a0c B32 xs)).length<=2*xs.length:=by
   rw[d8v,a4o a0e];exact hb3
  rw[if_neg (by simp;exact he)];have key:=it_loop (a0c B32 xs) [] (a0c B32 xs+1) (by omega) (by rw[a1l ca];omega) (by simp;omega);rw[a1l ca,List.nil_append]at key;rw[key];have hall:=d8u h0;generalize a4g (a0c B32 xs)=ps at*;unfold S.a0y S.b2a;dsimp only;have hj:g3y (Go.Cm.splice (ps.map mkB) (ps.map mkB).reverse 0) (bs [])=Go.Lib.decDigits (a0c B32 xs):=by
   rw[b6h (by simp)];unfold g3y;rw[show(bs []).data.toList=[]from rfl,f4c,<-List.map_reverse,List.map_map];rw[show(fun x:ByteArray=>x.data.toList) ∘ mkB=id by funext l;simp [mkB],List.map_id];exact hall
  rw[if_pos (by simp;omega),Option.bind_some];dsimp only;rw[hj,if_pos ⟨by rw[b6h (by simp)];simp;omega,by omega⟩,Option.bind_some]
def P.c6k (k:Nat) (x:RB×Unit):Option ((ByteArray×Bool)×Unit):=
 (S.b1c (x.1.2.1,())).bind fun y0=>(S.b1c (x.1.2.2,())).bind fun y1=>if x.1.1 then if decide ((1+y0.1.size)<=9223372036854775807)then if ! ((ByteArray.toList y1.1)==(ByteArray.toList (bs [49])))then if decide ((1+y1.1.size)<=9223372036854775807)then if decide (((ByteArray.size ((bs [45])++y0.1))+(ByteArray.size ((bs [47])++y1.1)))<=9223372036854775807)then if decide ((y0.1.size:Int)<=200)then some ((((bs [45])++y0.1)++((bs [47])++y1.1),decide ((y1.1.size:Int)<=200)),())else some ((((bs [45])++y0.1)++((bs [47])++y1.1),false),())else none else none else if decide ((y0.1.size:Int)<=200)then some (((bs [45])++y0.1,decide ((y1.1.size:Int)<=200)),())else some (((bs [45])++y0.1,false),())else none else if ! ((ByteArray.toList y1.1)==(ByteArray.toList (bs [49])))then if decide ((1+y1.1.size)<=9223372036854775807)then if decide ((y0.1.size+(ByteArray.size ((bs [47])++y1.1)))<=9223372036854775807)then if decide ((y0.1.size:Int)<=200)then some ((y0.1++((bs [47])++y1.1),decide ((y1.1.size:Int)<=200)),())else some ((y0.1++((bs [47])++y1.1),false),())else none else none else if decide ((y0.1.size:Int)<=200)then some ((y0.1,decide ((y1.1.size:Int)<=200)),())else some ((y0.1,false),())
def S.b6o (x:(RB×Unit)):(Option ((ByteArray×Bool)×Unit)):=if rok B32 40000000 x.1=true then some ((⟨(g3g (rv B32 x.1)).toArray⟩,fitN (rv B32 x.1)),())else none
theorem S.d9i (x r) (h:S.b6o x=some r):∃k,P.c6k k x=some r:=by
 obtain⟨⟨neg,as,bs'⟩,u⟩:=x;unfold S.b6o at h;dsimp only at h;split at h
 case isFalse=>cases h
 rename_i hc;rw[b7o]at hc;obtain⟨ca,cb,la,lb⟩:=hc;dsimp only at ca cb la lb;cases h;refine⟨0,?_⟩;unfold P.c6k;dsimp only;have e1:∀xs,a2y B32 xs=true->xs.length<=40000000->S.b1c (xs,())=some (⟨(Go.Lib.decDigits (a0c B32 xs)).toArray⟩,()):=by
  intro xs cx lx;unfold S.b1c;exact if_pos ⟨cx,lx⟩
 rw[e1 as ca la,Option.bind_some,e1 bs' cb lb,Option.bind_some];dsimp only;have l1:=c3v (show B32<=10^10 by decide) ca;have l2:=c3v (show B32<=10^10 by decide) cb;unfold rv g3g fitN;dsimp only;have hd1:=dec_one (a0c B32 bs');generalize Go.Lib.decDigits (a0c B32 as)=t1 at*;generalize Go.Lib.decDigits (a0c B32 bs')=t2 at*;rw[ByteArray.toList_eq,ByteArray.toList_eq,show bs [49]=⟨([49]:List UInt8).toArray⟩from rfl,show bs [45]=⟨([45]:List UInt8).toArray⟩from rfl,show bs [47]=⟨([47]:List UInt8).toArray⟩from rfl];rw[c1t,c1t,c1t,c1t,c5t,c5t,c5t,c5t];have c1:(1+t1.length<=9223372036854775807):=by omega
 have c2:(1+t2.length<=9223372036854775807):=by omega
 have c3:([45]++t1).length+([47]++t2).length<=9223372036854775807:=by simp;omega
 have c4:t1.length+([47]++t2).length<=9223372036854775807:=by simp;omega
 simp only[c1,c2,c3,c4,decide_true,if_true];have d1:∀t:List UInt8,decide (((t.length:Nat):Int)<=200)=decide (t.length<=200):=by
  intro t;rw[decide_eq_decide];omega
 rw[d1,d1];have d2:((!(t2== [49]))=true)↔¬a0c B32 bs'=1:=by
  rw[<-hd1];simp
 by_cases hq:a0c B32 bs'=1
 ·have n2:¬((!(t2== [49]))=true):=by rw[d2];exact fun q=>q hq
  cases neg<;>simp only[n2,hq,if_true,if_false,Bool.false_eq_true,List.append_nil,List.nil_append]<;>cases decide (t1.length<=200)<;>simp
 ·have n2:((!(t2== [49]))=true):=d2.2 hq;cases neg<;>simp only[n2,hq,if_true,if_false,Bool.false_eq_true,List.nil_append]<;>cases decide (t1.length<=200)<;>simp
def P.f8j (k:Nat) (x:RB×Unit):Option ((ByteArray×Bool)×Unit):=
 (S.b6o ((x.1.1,x.1.2.1,x.1.2.2),())).bind fun y0=>if !y0.1.2 then some ((bs [],false),())else some ((y0.1.1,true),())
def S.d1h (x:(RB×Unit)):(Option ((ByteArray×Bool)×Unit)):=if rok B32 40000000 x.1=true then some (e8i (rv B32 x.1),())else none
theorem S.f8k (x r) (h:S.d1h x=some r):∃k,P.f8j k x=some r:=by
 obtain⟨⟨neg,as,bs'⟩,u⟩:=x;unfold S.d1h at h;dsimp only at h;split at h
 case isFalse=>cases h
 rename_i hc;cases h;refine⟨0,?_⟩;unfold P.f8j S.b6o;dsimp only;rw[if_pos hc,Option.bind_some];unfold e8i;dsimp only;cases fitN (rv B32 (neg,(as,bs')))<;>simp
def P.c2o (k:Nat) (x:Int×Unit):Option (Int×Unit):=
 if decide (x.1<0)then some (wrap .u64 (0 - (wrap .u64 x.1)),())else some (wrap .u64 x.1,())
def S.b4k (x:(Int×Unit)):(Option (Int×Unit)):=if -9223372036854775808<=x.1/\x.1<=9223372036854775807 then some (((x.1.natAbs:Nat):Int),())else none
theorem S.d4v (x r) (h:S.b4k x=some r):∃k,P.c2o k x=some r:=by
 obtain⟨n,u⟩:=x;unfold S.b4k at h;dsimp only at h;split at h
 case isFalse=>cases h
 rename_i hc;cases h;refine⟨0,?_⟩;unfold P.c2o;dsimp only;have hw:∀y:Int,IntKind.wrap .u64 y=y%18446744073709551616:=fun _=>rfl
 rw[hw,hw]
 by_cases h0:n<0
 ·rw[if_pos (decide_eq_true h0)];congr 2;omega
 ·rw[if_neg (by simpa using h0)];congr 2;omega
def P.e8r (k:Nat) (x:Int×Unit):Option (List Int×Unit):=
 (S.a3z ((wrap .u32 x.1)::[wrap .u32 (Int.fdiv x.1 4294967296)],())).bind fun y0=>some (y0.1,())
def S.a3h (x:(Int×Unit)):(Option ((List Int)×Unit)):=if 0<=x.1/\x.1<18446744073709551616 then some (nd B32 x.1.toNat,())else none
theorem S.f4d (x r) (h:S.a3h x=some r):∃k,P.e8r k x=some r:=by
 obtain⟨n,u⟩:=x;unfold S.a3h at h;dsimp only at h;split at h
 case isFalse=>cases h
 rename_i hc;cases h;refine⟨0,?_⟩;unfold P.e8r;dsimp only;have hf:Int.fdiv n 4294967296=n/4294967296:=Int.fdiv_eq_ediv_of_nonneg _ (by omega);rw[hf,b9o n hc.1,b9o _ (by omega)];have hd:dig B32 [n%4294967296,n/4294967296%4294967296]=true:=by
  rw[a2m,a2m];refine⟨⟨by omega,?_⟩,⟨by omega,?_⟩,rfl⟩
  ·show _<(4294967296:Int);omega
  ·show _<(4294967296:Int);omega
 rw[f8i _ hd (by simp),Option.bind_some];have:a0c B32 [n%4294967296,n/4294967296%4294967296]=n.toNat:=by
  simp only[a0c];show(n%4294967296).toNat+4294967296*((n/4294967296%4294967296).toNat+4294967296*0)=n.toNat;omega
 rw[this]
def P.e8s (k:Nat) (x:Int×Unit):Option (RB×Unit):=
 (S.b4k (x.1,())).bind fun y0=>(S.a3h (y0.1,())).bind fun y1=>(S.a3h (1,())).bind fun y2=>some ((decide (x.1<0),y1.1,y2.1),())
def S.a3o (x:(Int×Unit)):(Option (RB×Unit)):=if -9223372036854775808<=x.1/\x.1<=9223372036854775807 then some (rp B32 (b8w x.1),())else none
theorem S.f4e (x r) (h:S.a3o x=some r):∃k,P.e8s k x=some r:=by
 obtain⟨n,u⟩:=x;unfold S.a3o at h;dsimp only at h;split at h
 case isFalse=>cases h
 rename_i hc;cases h;refine⟨0,?_⟩;unfold P.e8s S.b4k S.a3h;dsimp only;rw[if_pos hc,Option.bind_some];dsimp only;rw[if_pos ⟨by omega,by omega⟩,Option.bind_some,Int.toNat_natCast,if_pos ⟨by decide,by decide⟩,Option.bind_some];rfl
abbrev P.b5n (x1:Int×List Int×List Int×Unit) (g2:Int×List Int×List Int×Unit->Option (Int×Unit)):Option (Int×Unit):=
 (fun(a:Int) (b c:List Int)=>if decide (a>=0)then if decide (0<=a)then if decide (a<(b.length:Int))then if decide (0<=a)then if decide (a<(c.length:Int))then if(b.getD a.toNat 0) != (c.getD a.toNat 0)then if decide (0<=a)then if decide (a<(b.length:Int))then if decide (0<=a)then if decide (a<(c.length:Int))then if decide ((b.getD a.toNat 0)<(c.getD a.toNat 0))then some ((-1:Int),())else some (1,())else none else none else none else none else g2 (wrap .i64 (a - 1),b,c,())else none else none else none else none else some (0,())) x1.1 x1.2.1 x1.2.2.1
def P.d1i (k:Nat) (x:List Int×List Int×Unit):Option (Int×Unit):=
 if(x.1.length:Int) != (x.2.1.length:Int)then if decide ((x.1.length:Int)<(x.2.1.length:Int))then some ((-1:Int),())else some (1,())else loopP P.b5n k (wrap .i64 ((x.1.length:Int) - 1),x.1,x.2.1,())
def S.a1h (x:((List Int)×((List Int)×Unit))):(Option (Int×Unit)):=if a2y B32 x.1=true/\a2y B32 x.2.1=true/\x.1.length<=1000000000000 then some (b0u (a0c B32 x.1) (a0c B32 x.2.1),())else none
theorem S.e3w (x r) (h:S.a1h x=some r):∃k,P.d1i k x=some r:=by
 obtain⟨xs,ys,u⟩:=x;unfold S.a1h at h;dsimp only at h;split at h
 case isFalse=>cases h
 rename_i hc;obtain⟨cx,cy,hl⟩:=hc;cases h;refine⟨xs.length+1,?_⟩;unfold P.d1i;dsimp only
 by_cases hn:xs.length=ys.length
 ·rw[if_neg (by simp [hn]),wr (by omega) (by omega)];have key:=a0g (k:=xs.length+1) (b:=P.b5n) (n:=xs.length) (st:=fun j=>((xs.length:Int) - 1 - (j:Int),xs,ys,())) (F:=fun j=>some (b0u (a0c B32 (xs.take (xs.length - j))) (a0c B32 (ys.take (xs.length - j))),())) (fun j g hj hg=>by
   unfold P.b5n;dsimp only at hg ⊢;have e1:(xs.length:Int) - 1 - (j:Int)>=0:=by omega
   have e3:(0:Int)<=(xs.length:Int) - 1 - (j:Int):=by omega
   have e4:(xs.length:Int) - 1 - (j:Int)<(xs.length:Int):=by omega
   have e4':(xs.length:Int) - 1 - (j:Int)<(ys.length:Int):=by omega
   simp only[e1,e4,e4',decide_true,if_true];have hi:xs.length - (j+1)<xs.length:=by omega
   have hi':xs.length - (j+1)<ys.length:=by omega
   have e5:(xs.length:Int) - 1 - (j:Int)=((xs.length - (j+1):Nat):Int):=by omega
   have e6:xs.length - j=(xs.length - (j+1))+1:=by omega
   rw[e5,a0m xs _ _ hi,a0m ys _ _ hi',e6];generalize xs.length - (j+1)=i at*
   by_cases hq:xs[i]=ys[i]
   ·rw[if_neg (by simp [hq]),wr (by omega) (by omega)];have e7:((i:Nat):Int) - 1=(xs.length:Int) - 1 - ((j+1:Nat):Int):=by omega
    rw[e7,hg,<-List.take_append_getElem hi,<-List.take_append_getElem hi',a0w,a0w,hq];have hlx:(xs.take i).length=i:=by simp;omega
    have hly:(ys.take i).length=i:=by simp;omega
    rw[hlx,hly];unfold b0u;simp only[Nat.add_lt_add_iff_right]
   ·rw[if_pos (by simp [hq])]
    by_cases hlt:xs[i]<ys[i]
    ·have:=c9d xs ys i hi hi' (a1o cx) (a1o cy) hlt;rw[if_pos (decide_eq_true hlt),b0u,if_pos this]
    ·have:=c9d ys xs i hi' hi (a1o cy) (a1o cx) (by omega);rw[if_neg (by simpa using hlt),b0u,if_neg (by omega),if_pos this]) (fun g=>by
   unfold P.b5n;dsimp only;rw[if_neg (by simp;omega),Nat.sub_self,List.take_zero,List.take_zero];rfl) (by omega)
  rw[show(xs.length:Int) - 1 - ((0:Nat):Int)=(xs.length:Int) - 1 by omega,Nat.sub_zero,List.take_length,List.take_of_length_le (by omega)]at key;exact key
 ·rw[if_pos (by simp;omega)]
  by_cases hlt:xs.length<ys.length
  ·rw[if_pos (decide_eq_true (by omega)),b0u,if_pos (b0v a0d cx cy hlt)]
  ·have:=b0v a0d cy cx (by omega);rw[if_neg (by simp;omega),b0u,if_neg (by omega),if_pos this]
abbrev P.b5o (x1:Int×Int×List Int×Int×List Int×List Int×Unit) (g2:Int×Int×List Int×Int×List Int×List Int×Unit->Option (List Int×Unit)):Option (List Int×Unit):=
 (fun(a b d:Int) (c e f:List Int)=>if decide (a<b)then if decide (0<=a)then if decide (a<(c.length:Int))then if decide (a<(e.length:Int))then if decide (0<=a)then if decide (a<(e.length:Int))then if decide ((wrap .i64 ((wrap .i64 ((wrap .i64 (c.getD a.toNat 0)) - d)) - (wrap .i64 (e.getD a.toNat 0))))<0)then if decide (0<=a)then if decide (a<(f.length:Int))then g2 (wrap .i64 (a+1),b,c,1,e,f.set (0+a.toNat) (wrap .u32 (wrap .i64 ((wrap .i64 ((wrap .i64 (c.getD a.toNat 0)) - d)) - (wrap .i64 (e.getD a.toNat 0))))),())else none else none else if decide (0<=a)then if decide (a<(f.length:Int))then g2 (wrap .i64 (a+1),b,c,0,e,f.set (0+a.toNat) (wrap .u32 (wrap .i64 ((wrap .i64 ((wrap .i64 (c.getD a.toNat 0)) - d)) - (wrap .i64 (e.getD a.toNat 0))))),())else none else none else none else none else if decide ((wrap .i64 ((wrap .i64 (c.getD a.toNat 0)) - d))<0)then if decide (0<=a)then if decide (a<(f.length:Int))then g2 (wrap .i64 (a+1),b,c,1,e,f.set (0+a.toNat) (wrap .u32 (wrap .i64 ((wrap .i64 (c.getD a.toNat 0)) - d))),())else none else none else if decide (0<=a)then if decide (a<(f.length:Int))then g2 (wrap .i64 (a+1),b,c,0,e,f.set (0+a.toNat) (wrap .u32 (wrap .i64 ((wrap .i64 (c.getD a.toNat 0)) - d))),())else none else none else none else none else(S.a3z (f,())).bind fun y3=>some (y3.1,())) x1.1 x1.2.1 x1.2.2.2.1 x1.2.2.1 x1.2.2.2.2.1 x1.2.2.2.2.2.1
def P.d1j (k:Nat) (x:List Int×List Int×Unit):Option (List Int×Unit):=
 if decide (0<=(x.1.length:Int))then if decide ((x.1.length:Int)<=(x.1.length:Int))then if decide (((x.1.length:Int)*4)<=281474976710656)then loopP P.b5o k (0,(x.1.length:Int),x.1,0,x.2.1,List.replicate (Int.toNat (x.1.length:Int)) 0,())else none else none else none
def S.a9s (x:((List Int)×((List Int)×Unit))):(Option ((List Int)×Unit)):=if dig B32 x.1=true/\dig B32 x.2.1=true/\x.2.1.length<=x.1.length/\a0c B32 x.2.1<=a0c B32 x.1/\x.1.length<=10000000000 then some (nd B32 (a0c B32 x.1 - a0c B32 x.2.1),())else none
theorem S.e3x (x r) (h:S.a9s x=some r):∃k,P.d1j k x=some r:=by
 obtain⟨xs,ys,u⟩:=x;unfold S.a9s at h;dsimp only at h;split at h
 case isFalse=>cases h
 rename_i hc;obtain⟨dx,dy,hl,hv,lx⟩:=hc;cases h;refine⟨xs.length+1,?_⟩;unfold P.d1j;dsimp only;have a1:(0:Int)<=(xs.length:Int):=by omega
 have a2:(xs.length:Int)*4<=281474976710656:=by omega
 simp only[a1,a2,decide_true,if_true,Int.le_refl,Int.toNat_natCast];have key:=a0g (k:=xs.length+1) (b:=P.b5o) (n:=xs.length) (st:=fun i=>((i:Int),(xs.length:Int),xs,((a2j B32 1 xs ys i).2.2:Int),ys,(a2j B32 1 xs ys i).1++List.replicate (xs.length - i) 0,())) (F:=fun i=>some (nd B32 (a0c B32 xs - a0c B32 ys),())) (fun i g hi hg=>by
  unfold P.b5o;dsimp only at hg ⊢;refine Eq.trans ?_ hg;clear hg;obtain⟨q1,q2,q3,q4,q5⟩:=b9p (t:=1) a0d dx dy i;have gx:=a1a (B:=B32) (by decide) dx i;have gy:=a1a (B:=B32) (by decide) dy i;have gx1:xs.getD i 0<4294967296:=gx.2;have gy1:ys.getD i 0<4294967296:=gy.2;have gx0:=gx.1;have gy0:=gy.1;have hlen:((a2j B32 1 xs ys i).1++List.replicate (xs.length - i) (0:Int)).length=xs.length:=by rw[List.length_append,q2,List.length_replicate];omega
  have e1:(i:Int)<(xs.length:Int):=by omega
  have e2:(0:Int)<=(i:Int):=by omega
  rw[hlen];simp only[e1,e2,decide_true,if_true,Nat.zero_add,Int.toNat_natCast];have hrep:List.replicate (xs.length - i) (0:Int)=0::List.replicate (xs.length - (i+1)) 0:=by
   rw[show xs.length - i=(xs.length - (i+1))+1 by omega,List.replicate_succ]
  rw[hrep];simp only[b2t q2];rw[(d6u a0d (xs:=xs) dy i).2];dsimp only;have y0:¬((i:Int)<(ys.length:Int))->ys.getD i 0=0:=by
   intro hj;rw[List.getD_eq_getElem?_getD,List.getElem?_eq_none (by omega)];rfl
  generalize (a2j B32 1 xs ys i).1=pl at*;generalize (a2j B32 1 xs ys i).2.2=l0 at*;obtain⟨x,hx⟩:∃x,xs.getD i 0=x:=⟨_,rfl⟩
  obtain⟨y,hy⟩:∃y,ys.getD i 0=y:=⟨_,rfl⟩
  simp only[hx,hy]at gx1 gx0 gy1 gy0 y0 ⊢;have hB:((B32:Nat):Int)=4294967296:=rfl;rw[wr (x:=(i:Int)+1) (by omega) (by omega),wr (x:=x) (by omega) (by omega),wr (x:=x - (l0:Int)) (by omega) (by omega),hB]
  by_cases hj:(i:Int)<(ys.length:Int)
  ·rw[if_pos (decide_eq_true hj),if_pos (decide_eq_true hj),wr (x:=y) (by omega) (by omega),wr (x:=x - (l0:Int) - y) (by omega) (by omega),c3s,show x - (l0:Int) - y=x - y - (l0:Int) by omega]
   by_cases hn:x - y - (l0:Int)<0
   ·rw[if_pos (decide_eq_true hn),if_pos hn];rfl
   ·rw[if_neg (by simpa using hn),if_neg hn];rfl
  ·have hy0:=y0 hj;subst hy0;rw[if_neg (by simpa using hj),c3s,show x - 0 - (l0:Int)=x - (l0:Int) by omega]
   by_cases hn:x - (l0:Int)<0
   ·rw[if_pos (decide_eq_true hn),if_pos hn];rfl
   ·rw[if_neg (by simpa using hn),if_neg hn];rfl) (fun g=>by
  unfold P.b5o;dsimp only;rw[if_neg (by simp),Nat.sub_self,show List.replicate 0 (0:Int)=[]from rfl,List.append_nil,e3j a0d dx dy hl hv];unfold S.a3z;dsimp only;have hb:=a1m dx;rw[if_pos ⟨b5h (by decide) _ _,by rw[a3g];omega⟩,Option.bind_some,f3k a0d (by omega)]) (by omega)
 exact key
abbrev i_nat_add.A:=Int×Int×Int×List Int×List Int×List Int×Unit
abbrev i_nat_add.B:=Option (List Int×Unit)
abbrev P.a8x (x1:i_nat_add.A) (g2:i_nat_add.A->i_nat_add.B):i_nat_add.B:=
 (fun(a b c:Int) (d e f:List Int)=>if decide (a<b)then if decide (0<=a)then if decide (a<(d.length:Int))then if decide (a<(e.length:Int))then if decide (0<=a)then if decide (a<(e.length:Int))then if decide (0<=a)then if decide (a<(f.length:Int))then g2 (wrap .i64 (a+1),b,Int.fdiv (wrap .u64 ((wrap .u64 (c+(wrap .u64 (d.getD a.toNat 0))))+(wrap .u64 (e.getD a.toNat 0)))) 4294967296,d,e,f.set (0+a.toNat) (wrap .u32 (wrap .u64 ((wrap .u64 (c+(wrap .u64 (d.getD a.toNat 0))))+(wrap .u64 (e.getD a.toNat 0))))),())else none else none else none else none else if decide (0<=a)then if decide (a<(f.length:Int))then g2 (wrap .i64 (a+1),b,Int.fdiv (wrap .u64 (c+(wrap .u64 (d.getD a.toNat 0)))) 4294967296,d,e,f.set (0+a.toNat) (wrap .u32 (wrap .u64 (c+(wrap .u64 (d.getD a.toNat 0))))),())else none else none else none else none else if decide (0<=(d.length:Int))then if decide ((d.length:Int)<(f.length:Int))then(S.a3z (f.set (0+(Int.toNat (d.length:Int))) (wrap .u32 c),())).bind fun y3=>some (y3.1,())else none else none) x1.1 x1.2.1 x1.2.2.1 x1.2.2.2.1 x1.2.2.2.2.1 x1.2.2.2.2.2.1
abbrev P.c7t (x5:i_nat_add.A) (g6:i_nat_add.A->i_nat_add.B):i_nat_add.B:=
 (fun(a b c:Int) (d e f:List Int)=>if decide (a<b)then if decide (0<=a)then if decide (a<(d.length:Int))then if decide (a<(e.length:Int))then if decide (0<=a)then if decide (a<(e.length:Int))then if decide (0<=a)then if decide (a<(f.length:Int))then g6 (wrap .i64 (a+1),b,Int.fdiv (wrap .u64 ((wrap .u64 (c+(wrap .u64 (d.getD a.toNat 0))))+(wrap .u64 (e.getD a.toNat 0)))) 4294967296,d,e,f.set (0+a.toNat) (wrap .u32 (wrap .u64 ((wrap .u64 (c+(wrap .u64 (d.getD a.toNat 0))))+(wrap .u64 (e.getD a.toNat 0))))),())else none else none else none else none else if decide (0<=a)then if decide (a<(f.length:Int))then g6 (wrap .i64 (a+1),b,Int.fdiv (wrap .u64 (c+(wrap .u64 (d.getD a.toNat 0)))) 4294967296,d,e,f.set (0+a.toNat) (wrap .u32 (wrap .u64 (c+(wrap .u64 (d.getD a.toNat 0))))),())else none else none else none else none else if decide (0<=(d.length:Int))then if decide ((d.length:Int)<(f.length:Int))then(S.a3z (f.set (0+(Int.toNat (d.length:Int))) (wrap .u32 c),())).bind fun y7=>some (y7.1,())else none else none) x5.1 x5.2.1 x5.2.2.1 x5.2.2.2.1 x5.2.2.2.2.1 x5.2.2.2.2.2.1
def P.c4l (k:Nat) (x:List Int×List Int×Unit):i_nat_add.B:=
 if decide ((x.1.length:Int)<(x.2.1.length:Int))then if decide (0<=(wrap .i64 ((x.2.1.length:Int)+1)))then if decide ((wrap .i64 ((x.2.1.length:Int)+1))<=(wrap .i64 ((x.2.1.length:Int)+1)))then if decide (((wrap .i64 ((x.2.1.length:Int)+1))*4)<=281474976710656)then loopP P.a8x k (0,(x.2.1.length:Int),0,x.2.1,x.1,List.replicate (Int.toNat (wrap .i64 ((x.2.1.length:Int)+1))) 0,())else none else none else none else if decide (0<=(wrap .i64 ((x.1.length:Int)+1)))then if decide ((wrap .i64 ((x.1.length:Int)+1))<=(wrap .i64 ((x.1.length:Int)+1)))then if decide (((wrap .i64 ((x.1.length:Int)+1))*4)<=281474976710656)then loopP P.c7t k (0,(x.1.length:Int),0,x.1,x.2.1,List.replicate (Int.toNat (wrap .i64 ((x.1.length:Int)+1))) 0,())else none else none else none
theorem f2c (b:(Int×(Int×(Int×((List Int)×((List Int)×((List Int)×Unit))))))->((Int×(Int×(Int×((List Int)×((List Int)×((List Int)×Unit))))))->Option ((List Int)×Unit))->Option ((List Int)×Unit)) (hb:b=P.a8x)
  (xs ys:List Int) (hx:dig B32 xs=true) (hy:dig B32 ys=true) (hl:ys.length<=xs.length) (hbig:xs.length<=100000000000):
  loopP b (xs.length+1) ((0:Int),((xs.length:Int),((0:Int),(xs,(ys,(List.replicate (xs.length+1) 0,()))))))=some (nd B32 (a0c B32 xs+a0c B32 ys),()):=by
 subst hb;have key:=a0g (k:=xs.length+1) (b:=P.a8x) (n:=xs.length) (st:=fun i=>((i:Int),(xs.length:Int),((a1e B32 xs ys i).2:Int),xs,ys,(a1e B32 xs ys i).1++List.replicate (xs.length+1 - i) 0,())) (F:=fun i=>some (nd B32 (a0c B32 xs+a0c B32 ys),())) (fun i g hi hg=>by
  unfold P.a8x;dsimp only at hg ⊢;obtain⟨q1,q2,q3,q4⟩:=b3d a0d hx hy i;have gx:=a1a (B:=B32) (by decide) hx i;have gy:=a1a (B:=B32) (by decide) hy i;have gx1:xs.getD i 0<4294967296:=gx.2;have gy1:ys.getD i 0<4294967296:=gy.2;have gx0:=gx.1;have gy0:=gy.1;have hlen:((a1e B32 xs ys i).1++List.replicate (xs.length+1 - i) (0:Int)).length=xs.length+1:=by rw[List.length_append,q2,List.length_replicate];omega
  have e1:(i:Int)<(xs.length:Int):=by omega
  have e2:(0:Int)<=(i:Int):=by omega
  have e3:(i:Int)<((xs.length+1:Nat):Int):=by omega
  have hset:∀v:Int,((a1e B32 xs ys i).1++List.replicate (xs.length+1 - i) (0:Int)).set i v=((a1e B32 xs ys i).1++[v])++List.replicate (xs.length+1 - (i+1)) 0:=by
   intro v;have z1:xs.length+1 - i=(xs.length+1 - (i+1))+1:=by omega
   rw[z1,List.replicate_succ,List.set_append_right _ _ (by omega),q2,Nat.sub_self,List.append_assoc];rfl
  rw[hlen];simp only[e1,e2,e3,decide_true,if_true,Nat.zero_add,Int.toNat_natCast,hset];have hnat:∀n:Nat,n=(a1e B32 xs ys i).2+(xs.getD i 0).toNat+(ys.getD i 0).toNat->(((n%B32:Nat):Int)=(n:Int)%4294967296/\((n/B32:Nat):Int)=(n:Int)/4294967296):=by
   intro n _;constructor
   ·show((n%4294967296:Nat):Int)=_;omega
   ·show((n/4294967296:Nat):Int)=_;omega
  obtain⟨n1,n2⟩:=hnat _ rfl;rw[a1e]at hg;dsimp only at hg;rw[n1,n2]at hg
  by_cases hj:(i:Int)<(ys.length:Int)
  ·rw[if_pos (decide_eq_true hj),if_pos (decide_eq_true hj)];rw[wu (x:=xs.getD i 0) (by omega) (by omega),wu (x:=ys.getD i 0) (by omega) (by omega),wu (x:=((a1e B32 xs ys i).2:Int)+xs.getD i 0) (by omega) (by omega),wu (x:=((a1e B32 xs ys i).2:Int)+xs.getD i 0+ys.getD i 0) (by omega) (by omega),b9o _ (by omega),Int.fdiv_eq_ediv_of_nonneg _ (by omega),wr (by omega) (by omega)];have e:(((a1e B32 xs ys i).2+(xs.getD i 0).toNat+(ys.getD i 0).toNat:Nat):Int)=((a1e B32 xs ys i).2:Int)+xs.getD i 0+ys.getD i 0:=by omega
   rw[e]at hg;exact hg
  ·rw[if_neg (by simpa using hj)];have y0:ys.getD i 0=0:=by rw[List.getD_eq_getElem?_getD,List.getElem?_eq_none (by omega)];rfl
   rw[wu (x:=xs.getD i 0) (by omega) (by omega),wu (x:=((a1e B32 xs ys i).2:Int)+xs.getD i 0) (by omega) (by omega),b9o _ (by omega),Int.fdiv_eq_ediv_of_nonneg _ (by omega),wr (by omega) (by omega)];have e:(((a1e B32 xs ys i).2+(xs.getD i 0).toNat+(ys.getD i 0).toNat:Nat):Int)=((a1e B32 xs ys i).2:Int)+xs.getD i 0:=by omega
   rw[e]at hg;exact hg) (fun g=>by
  unfold P.a8x;dsimp only;obtain⟨q1,q2,q3,q4⟩:=b3d a0d hx hy xs.length;have hlen:((a1e B32 xs ys xs.length).1++List.replicate (xs.length+1 - xs.length) (0:Int)).length=xs.length+1:=by rw[List.length_append,q2,List.length_replicate];omega
  have e2:(0:Int)<=(xs.length:Int):=by omega
  have e3:(xs.length:Int)<((xs.length+1:Nat):Int):=by omega
  rw[if_neg (by simp),hlen,if_pos (decide_eq_true e2),if_pos (decide_eq_true e3),Nat.zero_add,Int.toNat_natCast];have hset:∀v:Int,((a1e B32 xs ys xs.length).1++List.replicate (xs.length+1 - xs.length) (0:Int)).set xs.length v=(a1e B32 xs ys xs.length).1++[v]:=by
   intro v;have z1:xs.length+1 - xs.length=1:=by omega
   rw[z1,List.set_append_right _ _ (by omega),q2,Nat.sub_self];rfl
  rw[hset,w32 (by omega) (by omega)];have hd:dig B32 ((a1e B32 xs ys xs.length).1++[((a1e B32 xs ys xs.length).2:Int)])=true:=by
   rw[a1j,q1,Bool.true_and,a2m];refine⟨⟨by omega,?_⟩,rfl⟩;show _<(4294967296:Int)
   omega
  rw[f8i _ hd (by simp [q2];omega),Option.bind_some];have ev:a0c B32 ((a1e B32 xs ys xs.length).1++[((a1e B32 xs ys xs.length).2:Int)])=a0c B32 xs+a0c B32 ys:=by
   rw[a0w,q2];have e:a0c B32 [((a1e B32 xs ys xs.length).2:Int)]=(a1e B32 xs ys xs.length).2:=by simp [a0c]
   rw[e,q3,List.take_length,List.take_of_length_le hl]
  rw[ev]) (by omega)
 exact key
def S.a9t (x:((List Int)×((List Int)×Unit))):(Option ((List Int)×Unit)):=if dig B32 x.1=true/\dig B32 x.2.1=true/\x.1.length<=10000000000/\x.2.1.length<=10000000000 then some (nd B32 (a0c B32 x.1+a0c B32 x.2.1),())else none
theorem S.e3y (x r) (h:S.a9t x=some r):∃k,P.c4l k x=some r:=by
 obtain⟨xs,ys,u⟩:=x;unfold S.a9t at h;dsimp only at h;split at h
 case isFalse=>cases h
 rename_i hc;obtain⟨dx,dy,lx,ly⟩:=hc;cases h
 by_cases hlt:xs.length<ys.length
 ·refine⟨ys.length+1,?_⟩;unfold P.c4l;dsimp only;have a1:(0:Int)<=(ys.length:Int)+1:=by omega
  have a3:((ys.length:Int)+1)*4<=281474976710656:=by omega
  rw[if_pos (decide_eq_true (by omega)),wr (by omega) (by omega),if_pos (decide_eq_true a1),if_pos (decide_eq_true (Int.le_refl _)),if_pos (decide_eq_true a3)];rw[show((ys.length:Int)+1).toNat=ys.length+1 by omega,f2c P.a8x rfl ys xs dy dx (by omega) (by omega),Nat.add_comm]
 ·refine⟨xs.length+1,?_⟩;unfold P.c4l;dsimp only;have a1:(0:Int)<=(xs.length:Int)+1:=by omega
  have a3:((xs.length:Int)+1)*4<=281474976710656:=by omega
  rw[if_neg (by simp;omega),wr (by omega) (by omega),if_pos (decide_eq_true a1),if_pos (decide_eq_true (Int.le_refl _)),if_pos (decide_eq_true a3)];rw[show((xs.length:Int)+1).toNat=xs.length+1 by omega];exact f2c P.c7t rfl xs ys dx dy (by omega) (by omega)
abbrev i_nat_mul.A:=Int×Int×List Int×Int×Int×List Int×Int×List Int×Int×Int×List Int×Unit
abbrev i_nat_mul.B:=Int×Int×List Int×List Int×List Int×Unit
abbrev i_nat_mul.C:=Option (List Int×Unit)
abbrev P.b2b (g2:i_nat_mul.B->i_nat_mul.C) (x4:i_nat_mul.A) (g5:i_nat_mul.A->i_nat_mul.C):i_nat_mul.C:=
 (fun(a b d e h j l:Int) (c f i m:List Int)=>if decide (a<b)then if decide (0<=a)then if decide (a<(c.length:Int))then if decide (0<=(wrap .i64 (h+a)))then if decide ((wrap .i64 (h+a))<(f.length:Int))then if decide (0<=(wrap .i64 (h+a)))then if decide ((wrap .i64 (h+a))<(f.length:Int))then g5 (wrap .i64 (a+1),b,c,Int.fdiv (wrap .u64 (d+(wrap .u64 ((wrap .u64 ((wrap .u64 e)*(wrap .u64 (c.getD a.toNat 0))))+(wrap .u64 (f.getD (0+(Int.toNat (wrap .i64 (h+a)))) 0)))))) 4294967296,e,f.set (0+(Int.toNat (wrap .i64 (h+a)))) (wrap .u32 (wrap .u64 (d+(wrap .u64 ((wrap .u64 ((wrap .u64 e)*(wrap .u64 (c.getD a.toNat 0))))+(wrap .u64 (f.getD (0+(Int.toNat (wrap .i64 (h+a)))) 0))))))),h,i,j,l,m,())else none else none else none else none else none else none else if decide (0<=(wrap .i64 (h+(i.length:Int))))then if decide ((wrap .i64 (h+(i.length:Int)))<(f.length:Int))then g2 (wrap .i64 (j+1),l,m,i,f.set (0+(Int.toNat (wrap .i64 (h+(i.length:Int))))) (wrap .u32 d),())else none else none) x4.1 x4.2.1 x4.2.2.2.1 x4.2.2.2.2.1 x4.2.2.2.2.2.2.1 x4.2.2.2.2.2.2.2.2.1 x4.2.2.2.2.2.2.2.2.2.1 x4.2.2.1 x4.2.2.2.2.2.1 x4.2.2.2.2.2.2.2.1 x4.2.2.2.2.2.2.2.2.2.2.1
abbrev P.b5p (k:Nat) (x1:i_nat_mul.B) (g2:i_nat_mul.B->i_nat_mul.C):i_nat_mul.C:=
 if decide (x1.1<x1.2.1)then if decide (0<=x1.1)then if decide (x1.1<(x1.2.2.1.length:Int))then loopP (P.b2b g2) k (0,(x1.2.2.2.1.length:Int),x1.2.2.2.1,0,x1.2.2.1.getD x1.1.toNat 0,x1.2.2.2.2.1,x1.1,x1.2.2.2.1,x1.1,x1.2.1,x1.2.2.1,())else none else none else(S.a3z (x1.2.2.2.2.1,())).bind fun y6=>some (y6.1,())
def P.d1k (k:Nat) (x:List Int×List Int×Unit):i_nat_mul.C:=
 if decide (0<=(wrap .i64 ((x.1.length:Int)+(x.2.1.length:Int))))then if decide ((wrap .i64 ((x.1.length:Int)+(x.2.1.length:Int)))<=(wrap .i64 ((x.1.length:Int)+(x.2.1.length:Int))))then if decide (((wrap .i64 ((x.1.length:Int)+(x.2.1.length:Int)))*4)<=281474976710656)then loopP (P.b5p k) k (0,(x.1.length:Int),x.1,x.2.1,List.replicate (Int.toNat (wrap .i64 ((x.1.length:Int)+(x.2.1.length:Int)))) 0,())else none else none else none
theorem g4a (g:(Int×(Int×((List Int)×((List Int)×((List Int)×Unit)))))->(Option ((List Int)×Unit))) (F:Option ((List Int)×Unit)) {xs ys:List Int} (hx:dig B32 xs=true) (hy:dig B32 ys=true) (hlx:xs.length<=10000000000) (hly:ys.length<=10000000000) {i:Nat} (hi:i<xs.length) (K:Nat) (hK:ys.length<K)
  (hg:g (((i+1:Nat):Int),((xs.length:Int),(xs,(ys,(fd B32 (xs.length+ys.length) (a0c B32 (xs.take (i+1))*a0c B32 ys),())))))=F):
  loopP (P.b2b g) K ((0:Int),((ys.length:Int),(ys,((0:Int),(xs.getD i 0,(fd B32 (xs.length+ys.length) (a0c B32 (xs.take i)*a0c B32 ys),((i:Int),(ys,((i:Int),((xs.length:Int),(xs,())))))))))))=F:=by
 have hA:=b6i a0d hx hy i (by omega);have hA':=b6i a0d hx hy (i+1) (by omega);have gx:=a1a (B:=B32) (by decide) hx i;have gx1:xs.getD i 0<4294967296:=gx.2;have gx0:=gx.1;rw[a2q,Nat.add_mul,Nat.mul_assoc]at hg hA';generalize a0c B32 (xs.take i)*a0c B32 ys=A at*;obtain⟨x,hxe⟩:∃x:Nat,xs.getD i 0=(x:Int):=⟨(xs.getD i 0).toNat,by omega⟩
 rw[hxe,Int.toNat_natCast]at hg hA';rw[hxe]at gx1 ⊢;have hxB:x<B32:=by show x<4294967296;omega
 have hsh:=e3d a0d hi hA;rw[hsh];have hlw:(fd B32 ys.length (A/B32^i)).length=ys.length:=a3g _ _ _;have hdw:dig B32 (fd B32 ys.length (A/B32^i))=true:=b5h (by decide) _ _;have hvw:a0c B32 (fd B32 ys.length (A/B32^i))=A/B32^i:=by
  rw[b7m,Nat.mod_eq_of_lt];rw[Nat.div_lt_iff_lt_mul (Nat.pow_pos (by decide)),<-Nat.pow_add,Nat.add_comm];exact hA
 have hnext:=f1m a0d (la:=xs.length) (lb:=ys.length) (R:=x*a0c B32 ys) hi hA';generalize hR:List.replicate (xs.length - 1 - i) (0:Int)=R at*;have hRl:R.length=xs.length - 1 - i:=by rw[<-hR,List.length_replicate]
 generalize hW:fd B32 ys.length (A/B32^i)=W at*;have hl0:(fd B32 i A).length=i:=a3g _ _ _;have key:=a0g (k:=K) (b:=P.b2b g) (n:=ys.length) (st:=fun k=>((k:Int),(ys.length:Int),ys,((b8z B32 x W ys k).2:Int),(x:Int),(fd B32 i A++(b8z B32 x W ys k).1)++(W.drop k++(0:Int)::R),(i:Int),ys,(i:Int),(xs.length:Int),xs,())) (F:=fun k=>F) (fun k g' hk hg'=>by
  unfold P.b2b;dsimp only at hg' ⊢;refine Eq.trans ?_ hg';clear hg';obtain⟨q1,q2,q3,q4⟩:=d8s (x:=x) a0d hxB hdw hy k;have q4':(b8z B32 x W ys k).2<4294967296:=q4;have gy:=a1a (B:=B32) (by decide) hy k;have gw:=a1a (B:=B32) (by decide) hdw k;have gy1:ys.getD k 0<4294967296:=gy.2;have gw1:W.getD k 0<4294967296:=gw.2;have gy0:=gy.1;have gw0:=gw.1;have hAl:(fd B32 i A++(b8z B32 x W ys k).1).length=i+k:=by rw[List.length_append,hl0,q2]
  have hlen:((fd B32 i A++(b8z B32 x W ys k).1)++(W.drop k++(0:Int)::R)).length=xs.length+ys.length:=by
   rw[List.length_append,hAl,List.length_append,List.length_drop,List.length_cons,hlw,hRl];omega
  have e1:(k:Int)<(ys.length:Int):=by omega
  have e2:(0:Int)<=(k:Int):=by omega
  have e3:(0:Int)<=((i+k:Nat):Int):=by omega
  have e4:((i+k:Nat):Int)<((xs.length+ys.length:Nat):Int):=by omega
  rw[hlen,<-Int.natCast_add i k,wr (x:=((i+k:Nat):Int)) (by omega) (by omega)];simp only[e1,e2,e3,e4,decide_true,if_true,Nat.zero_add,Int.toNat_natCast];rw[a3c (xs:=W) (i:=k) (by omega),List.cons_append,b0x hAl];simp only[b2t hAl];rw[b8z];dsimp only;generalize W.getD k 0=w at*;generalize ys.getD k 0=y at*;generalize b8z B32 x W ys k=p at*;obtain⟨pl,c0⟩:=p;dsimp only at*;obtain⟨Y,rfl⟩:∃Y:Nat,y=(Y:Int):=⟨y.toNat,by omega⟩
  obtain⟨w',rfl⟩:∃Y:Nat,w=(Y:Int):=⟨w.toNat,by omega⟩
  rw[Int.toNat_natCast,Int.toNat_natCast];have hxY:x*Y<=4294967295*4294967295:=Nat.mul_le_mul (by omega) (by omega);rw[wu (x:=(x:Int)) (by omega) (by omega),wu (x:=(Y:Int)) (by omega) (by omega),<-Int.natCast_mul,wu (x:=((x*Y:Nat):Int)) (by omega) (by omega),wu (x:=(w':Int)) (by omega) (by omega),<-Int.natCast_add,wu (x:=((x*Y+w':Nat):Int)) (by omega) (by omega),<-Int.natCast_add,wu (x:=((c0+(x*Y+w'):Nat):Int)) (by omega) (by omega),Int.fdiv_eq_ediv_of_nonneg _ (by omega),c3s,wr (x:=(k:Int)+1) (by omega) (by omega)];have e8:((c0+(x*Y+w'):Nat):Int)%4294967296=(((c0+(x*Y+w'))%B32:Nat):Int):=by
   show _=(((c0+(x*Y+w'))%4294967296:Nat):Int)
   omega
  have e9:((c0+(x*Y+w'):Nat):Int)/4294967296=(((c0+(x*Y+w'))/B32:Nat):Int):=by
   show _=(((c0+(x*Y+w'))/4294967296:Nat):Int)
   omega
  rw[e8,e9,<-List.append_assoc (fd B32 i A)];rfl) (fun g'=>by
  unfold P.b2b;dsimp only;obtain⟨q1,q2,q3,q4⟩:=d8s (x:=x) a0d hxB hdw hy ys.length;have q4':(b8z B32 x W ys ys.length).2<4294967296:=q4;rw[List.take_length,<-hlw,List.take_length,hlw,hvw]at q3;have hAl:(fd B32 i A++(b8z B32 x W ys ys.length).1).length=i+ys.length:=by rw[List.length_append,hl0,q2]
  have hlen:((fd B32 i A++(b8z B32 x W ys ys.length).1)++(W.drop ys.length++(0:Int)::R)).length=xs.length+ys.length:=by
   rw[List.length_append,hAl,List.length_append,List.length_drop,List.length_cons,hlw,hRl];omega
  have e1:¬((ys.length:Int)<(ys.length:Int)):=by omega
  have e3:(0:Int)<=((i+ys.length:Nat):Int):=by omega
  have e4:((i+ys.length:Nat):Int)<((xs.length+ys.length:Nat):Int):=by omega
  rw[hlen,<-Int.natCast_add i ys.length,wr (x:=((i+ys.length:Nat):Int)) (by omega) (by omega)];simp only[e1,e3,e4,decide_true,decide_false,if_true,if_false,Bool.false_eq_true,Nat.zero_add,Int.toNat_natCast];rw[List.drop_of_length_le (by omega),List.nil_append,b2t hAl,w32 (by omega) (by omega),wr (x:=(i:Int)+1) (by omega) (by omega)];generalize b8z B32 x W ys ys.length=p at*;obtain⟨pl,c0⟩:=p;dsimp only at*;have hlt:=a1m q1;rw[q2]at hlt;have hpl:pl=fd B32 ys.length (A/B32^i+x*a0c B32 ys):=by
   have:=f3l a0d q1 q2 rfl;rw[this,<-q3,<-c1s B32 ys.length (_+_),Nat.add_mul_mod_self_left,c1s]
  have hc0:c0=(A/B32^i+x*a0c B32 ys)/B32^ys.length:=by
   rw[<-q3,Nat.add_mul_div_left _ _ (Nat.pow_pos (by decide)),Nat.div_eq_of_lt hlt,Nat.zero_add]
  rw[List.append_assoc _ [_],List.singleton_append,hpl,hc0,hnext];exact hg) hK
 rw[show(fd B32 i A++(b8z B32 x W ys 0).1)++(W.drop 0++(0:Int)::R)=(fd B32 i A++W)++(0:Int)::R by rw[show(b8z B32 x W ys 0).1=[]from rfl,List.append_nil,List.drop_zero,List.append_assoc]]at key;exact key
def S.a2z (x:((List Int)×((List Int)×Unit))):(Option ((List Int)×Unit)):=if dig B32 x.1=true/\dig B32 x.2.1=true/\x.1.length<=10000000000/\x.2.1.length<=10000000000 then some (nd B32 (a0c B32 x.1*a0c B32 x.2.1),())else none
theorem S.e3z (x r) (h:S.a2z x=some r):∃k,P.d1k k x=some r:=by
 obtain⟨xs,ys,u⟩:=x;unfold S.a2z at h;dsimp only at h;split at h
 case isFalse=>cases h
 rename_i hc;obtain⟨dx,dy,lx,ly⟩:=hc;cases h;refine⟨xs.length+ys.length+1,?_⟩;unfold P.d1k;dsimp only;have a1:(0:Int)<=((xs.length+ys.length:Nat):Int):=by omega
 have a2:((xs.length+ys.length:Nat):Int)*4<=281474976710656:=by omega
 rw[<-Int.natCast_add,wr (x:=((xs.length+ys.length:Nat):Int)) (by omega) (by omega)];simp only[a1,a2,decide_true,if_true,Int.le_refl,Int.toNat_natCast];have key:=a0g (k:=xs.length+ys.length+1) (b:=P.b5p (xs.length+ys.length+1)) (n:=xs.length) (st:=fun i=>((i:Int),(xs.length:Int),xs,ys,fd B32 (xs.length+ys.length) (a0c B32 (xs.take i)*a0c B32 ys),())) (F:=fun i=>some (nd B32 (a0c B32 xs*a0c B32 ys),())) (fun i g hi hg=>by
  unfold P.b5p;dsimp only at hg ⊢;have e1:(i:Int)<(xs.length:Int):=by omega
  have e2:(0:Int)<=(i:Int):=by omega
  simp only[e1,e2,decide_true,if_true,Int.toNat_natCast];exact g4a g _ dx dy lx ly hi _ (by omega) hg) (fun g=>by
  unfold P.b5p;dsimp only;rw[if_neg (by simp),List.take_length];unfold S.a3z;dsimp only;have hb:=b6i a0d dx dy xs.length (Nat.le_refl _);rw[List.take_length]at hb;rw[if_pos ⟨b5h (by decide) _ _,by rw[a3g];omega⟩,Option.bind_some,f3k a0d hb]) (by omega)
 rw[List.take_zero,show a0c B32 []*a0c B32 ys=0 by simp [a0c],e8d]at key;exact key
def S.a3k (x:(Int×Unit)):(Option (Int×Unit)):=if 0<=x.1/\x.1<=4294967295 then some (32 - (Go.Lib.bitLen x.1.toNat:Int),())else none
abbrev P.a8j (x1:Int×Int×List Int×Int×List Int×Unit) (g2:Int×Int×List Int×Int×List Int×Unit->Option (List Int×Unit)):Option (List Int×Unit):=
 (fun(a b d:Int) (c e:List Int)=>if decide (a<b)then if decide (0<=a)then if decide (a<(c.length:Int))then if decide (d<0)then none else if decide (0<=a)then if decide (a<(e.length:Int))then if decide (0<=a)then if decide (a<(e.length:Int))then if decide (0<=(wrap .i64 (a+1)))then if decide ((wrap .i64 (a+1))<(List.length (e.set (0+a.toNat) (wrap .u32 ((BitVec.toNat ((BitVec.ofInt 32 (e.getD (0+a.toNat) 0))|||(BitVec.ofInt 32 (wrap .u32 (wrap .u64 ((wrap .u64 (c.getD a.toNat 0))*((2:Int)^(Min.min d.toNat 64))))))):Nat):Int))):Int))then g2 (wrap .i64 (a+1),b,c,d,List.set (e.set (0+a.toNat) (wrap .u32 ((BitVec.toNat ((BitVec.ofInt 32 (e.getD (0+a.toNat) 0))|||(BitVec.ofInt 32 (wrap .u32 (wrap .u64 ((wrap .u64 (c.getD a.toNat 0))*((2:Int)^(Min.min d.toNat 64))))))):Nat):Int))) (0+(Int.toNat (wrap .i64 (a+1)))) (wrap .u32 (Int.fdiv (wrap .u64 ((wrap .u64 (c.getD a.toNat 0))*((2:Int)^(Min.min d.toNat 64)))) 4294967296)),())else none else none else none else none else none else none else none else none else some (e,())) x1.1 x1.2.1 x1.2.2.2.1 x1.2.2.1 x1.2.2.2.2.1
def P.b8a (k:Nat) (x:List Int×Int×Unit):Option (List Int×Unit):=
 if decide (0<=(wrap .i64 ((x.1.length:Int)+1)))then if decide ((wrap .i64 ((x.1.length:Int)+1))<=(wrap .i64 ((x.1.length:Int)+1)))then if decide (((wrap .i64 ((x.1.length:Int)+1))*4)<=281474976710656)then loopP P.a8j k (0,(x.1.length:Int),x.1,x.2.1,List.replicate (Int.toNat (wrap .i64 ((x.1.length:Int)+1))) 0,())else none else none else none
def S.a3v (x:((List Int)×(Int×Unit))):(Option ((List Int)×Unit)):=if dig B32 x.1=true/\0<=x.2.1/\x.2.1<=31/\x.1.length<=10000000000 then some (fd B32 (x.1.length+1) (a0c B32 x.1*2^x.2.1.toNat),())else none
theorem S.c8g (x r) (h:S.a3v x=some r):∃k,P.b8a k x=some r:=by
 obtain⟨xs,by',u⟩:=x;unfold S.a3v at h;dsimp only at h;split at h
 case isFalse=>cases h
 rename_i hc;obtain⟨hd,hb0,hb1,hl⟩:=hc;cases h;obtain⟨s,rfl⟩:∃d:Nat,by'=(d:Int):=⟨by'.toNat,by omega⟩
 rw[Int.toNat_natCast];have hs:s<=31:=by omega
 have hpow:0<2^s:=Nat.pow_pos (by decide);have hpow32:2^s<=2147483648:=Nat.le_trans (Nat.pow_le_pow_right (by decide) hs) (by decide);refine⟨xs.length+1,?_⟩;unfold P.b8a;dsimp only;rw[wr (by omega) (by omega)];have a1:(0:Int)<=(xs.length:Int)+1:=by omega
 have a3:((xs.length:Int)+1)*4<=281474976710656:=by omega
 rw[if_pos (decide_eq_true a1),if_pos (decide_eq_true (Int.le_refl _)),if_pos (decide_eq_true a3)];have e0:List.replicate ((xs.length:Int)+1).toNat (0:Int)=(b0w B32 (2^s) xs 0).1++(((b0w B32 (2^s) xs 0).2:Int)::List.replicate (xs.length - 0) 0):=by
  rw[show((xs.length:Int)+1).toNat=xs.length+1 by omega,List.replicate_succ];rfl
 rw[e0];have key:=a0g (k:=xs.length+1) (b:=P.a8j) (n:=xs.length) (st:=fun i=>((i:Int),(xs.length:Int),xs,(s:Int),(b0w B32 (2^s) xs i).1++(((b0w B32 (2^s) xs i).2:Int)::List.replicate (xs.length - i) 0),())) (F:=fun i=>some (fd B32 (xs.length+1) (a0c B32 xs*2^s),())) (fun i g hi hg=>by
  unfold P.a8j;dsimp only at hg ⊢;obtain⟨q1,q2,q3,q4⟩:=c9f (d:=2^s) a0d hd i (by omega);have hlen:((b0w B32 (2^s) xs i).1++(((b0w B32 (2^s) xs i).2:Int)::List.replicate (xs.length - i) 0)).length=xs.length+1:=by rw[List.length_append,q2,List.length_cons,List.length_replicate];omega
  have e1:(i:Int)<(xs.length:Int):=by omega
  have e2:(0:Int)<=(i:Int):=by omega
  have e3:(i:Int)<((xs.length+1:Nat):Int):=by omega
  have e4:¬((s:Int)<0):=by omega
  rw[hlen];simp only[e1,e2,e3,e4,decide_true,decide_false,if_true,Nat.zero_add,Int.toNat_natCast,List.length_set,hlen,Bool.false_eq_true,if_false];rw[wr (x:=(i:Int)+1) (by omega) (by omega)];have e5:(0:Int)<=(i:Int)+1:=by omega
  have e6:(i:Int)+1<((xs.length+1:Nat):Int):=by omega
  simp only[e5,e6,decide_true,if_true];have hgD:xs.getD i 0=xs[i]:=by simp [hi]
  have hx:=b5y hd hi;have hx1:xs[i]<4294967296:=hx.2;have hx0:=hx.1;rw[b0w,hgD]at hg;rw[hgD];have hcar:(b0w B32 (2^s) xs i).2<2^s:=by
   have h1:a0c B32 (xs.take i)<B32^i:=by
    have h0:dig B32 (xs.take i)=true:=by
     have:=List.take_append_drop i xs;rw[<-this,a1j,Bool.and_eq_true]at hd;exact hd.1
    have:=a1m h0;rwa [show(xs.take i).length=i by simp;omega]at this
   have h2:a0c B32 (xs.take i)*2^s<B32^i*2^s:=Nat.mul_lt_mul_of_pos_right h1 hpow;exact Nat.lt_of_mul_lt_mul_left (a:=B32^i) (by omega)
  generalize hP:b0w B32 (2^s) xs i=p at*;obtain⟨z,hz⟩:∃z:Nat,xs[i]=(z:Int):=⟨xs[i].toNat,(Int.toNat_of_nonneg hx0).symm⟩
  rw[hz]at hx1 hg ⊢;rw[Int.toNat_natCast]at hg;have hz32:z<2^32:=by omega
  have hzp:z*2^s<18446744073709551616:=Nat.lt_of_lt_of_le (Nat.mul_lt_mul_of_pos_right hz32 hpow) (by have:=Nat.mul_le_mul_left (2^32) hpow32;omega);have emin:Min.min s 64=s:=by omega
  have ep:((2:Int)^s)=((2^s:Nat):Int):=by rw[Int.natCast_pow];rfl
  have em:(z:Int)*((2^s:Nat):Int)=((z*2^s:Nat):Int):=(Int.natCast_mul _ _).symm;rw[wu (x:=(z:Int)) (by omega) (by omega),emin,ep,em,wu (x:=((z*2^s:Nat):Int)) (by omega) (by omega)];have g1:(p.1++((p.2:Int)::List.replicate (xs.length - i) 0)).getD i 0=(p.2:Int):=by
   rw[List.getD_eq_getElem?_getD,List.getElem?_append_right (by omega),q2,Nat.sub_self];rfl
  rw[g1,b9o ((z*2^s:Nat):Int) (by omega)];have e7:((z*2^s:Nat):Int)%4294967296=((z*2^s%2^32:Nat):Int):=by
   show _=((z*2^s%4294967296:Nat):Int)
   omega
  have hlow:=shl_low z s (by omega);have hor:p.2|||(z*2^s%2^32)=p.2+z*2^s%2^32:=by rw[hlow,g2z _ _ _ hcar]
  have hmlt:z*2^s%2^32<2^32:=Nat.mod_lt _ (by decide);have hsum:p.2+z*2^s%2^32<2^32:=by
   have h1:z%2^(32 - s)+1<=2^(32 - s):=Nat.mod_lt _ (Nat.pow_pos (by decide));have h2:2^s*(z%2^(32 - s)+1)<=2^s*2^(32 - s):=Nat.mul_le_mul_left _ h1;rw[<-Nat.pow_add,show s+(32 - s)=32 by omega,Nat.mul_add]at h2;omega
  rw[e7,bv_or _ _ (by omega) hmlt,hor,w32 (by omega) (by omega),Int.fdiv_eq_ediv_of_nonneg _ (by omega)];have hq:z*2^s/4294967296<4294967296:=(Nat.div_lt_iff_lt_mul (by decide)).2 (by omega);have e8:((z*2^s:Nat):Int)/4294967296=((z*2^s/4294967296:Nat):Int):=by omega
  rw[e8,w32 (by omega) (by omega)];have e9:(z*2^s+p.2)%B32=p.2+z*2^s%2^32:=by
   show(z*2^s+p.2)%4294967296=p.2+z*2^s%4294967296;omega
  have e10:(z*2^s+p.2)/B32=z*2^s/4294967296:=by
   show(z*2^s+p.2)/4294967296=_;omega
  rw[e9,e10]at hg;have z1:xs.length - i=(xs.length - (i+1))+1:=by omega
  rw[z1,List.replicate_succ,List.set_append_right _ _ (by omega),q2,Nat.sub_self,List.set_cons_zero,List.set_append_right _ _ (by omega),q2,show((i:Int)+1).toNat - i=1 by omega,List.set_cons_succ,List.set_cons_zero];rw[List.append_assoc]at hg;exact hg) (fun g=>by
  unfold P.a8j;dsimp only;obtain⟨q1,q2,q3,q4⟩:=c9f (d:=2^s) a0d hd xs.length (Nat.le_refl _);rw[List.take_length]at q3;have hcar:(b0w B32 (2^s) xs xs.length).2<2^s:=by
   have h2:a0c B32 xs*2^s<B32^xs.length*2^s:=Nat.mul_lt_mul_of_pos_right (a1m hd) hpow;exact Nat.lt_of_mul_lt_mul_left (a:=B32^xs.length) (by omega)
  rw[if_neg (by simp),Nat.sub_self];generalize b0w B32 (2^s) xs xs.length=p at*;have hdd:dig B32 (p.1++[(p.2:Int)])=true:=by
   rw[a1j,q1,Bool.true_and,a2m];refine⟨⟨Int.natCast_nonneg _,?_⟩,rfl⟩;show(p.2:Int)<4294967296;omega
  have:=c5s (B:=B32) (by decide) hdd;rw[a0w,q2,show a0c B32 [(p.2:Int)]=p.2 by simp [a0c],q3,List.length_append,q2]at this;show some (p.1++[(p.2:Int)],())=_;rw[<-this];rfl) (by omega)
 exact key
abbrev i_takeAway.A:=Option (Bool×List Int×Unit)
abbrev P.a5r (x4:Int×Int×Int×List Int×List Int×Unit) (g5:Int×Int×Int×List Int×List Int×Unit->i_takeAway.A):i_takeAway.A:=
 (fun(a b c:Int) (d e:List Int)=>if decide (a<b)then if decide (0<=a)then if decide (a<(d.length:Int))then if decide (a<(e.length:Int))then if decide (0<=a)then if decide (a<(e.length:Int))then if decide (0<=a)then if decide (a<(d.length:Int))then g5 (wrap .i64 (a+1),b,Int.fdiv (wrap .u64 ((wrap .u64 (c+(wrap .u64 (d.getD (0+a.toNat) 0))))+(wrap .u64 (e.getD a.toNat 0)))) 4294967296,d.set (0+a.toNat) (wrap .u32 (wrap .u64 ((wrap .u64 (c+(wrap .u64 (d.getD (0+a.toNat) 0))))+(wrap .u64 (e.getD a.toNat 0))))),e,())else none else none else none else none else if decide (0<=a)then if decide (a<(d.length:Int))then g5 (wrap .i64 (a+1),b,Int.fdiv (wrap .u64 (c+(wrap .u64 (d.getD (0+a.toNat) 0)))) 4294967296,d.set (0+a.toNat) (wrap .u32 (wrap .u64 (c+(wrap .u64 (d.getD (0+a.toNat) 0))))),e,())else none else none else none else none else some (true,d,())) x4.1 x4.2.1 x4.2.2.1 x4.2.2.2.1 x4.2.2.2.2.1
abbrev P.b3j (k:Nat) (x1:Int×Int×List Int×Int×Int×List Int×Int×Unit) (g2:Int×Int×List Int×Int×Int×List Int×Int×Unit->i_takeAway.A):i_takeAway.A:=
 (fun(a b d e h:Int) (c f:List Int)=>if decide (a<b)then if decide (a<(c.length:Int))then if decide (0<=a)then if decide (a<(c.length:Int))then if decide (0<=a)then if decide (a<(f.length:Int))then if decide ((wrap .i64 ((wrap .i64 ((wrap .i64 (f.getD (0+a.toNat) 0)) - (wrap .i64 (wrap .u32 (wrap .u64 (d+(wrap .u64 (e*(wrap .u64 (c.getD a.toNat 0)))))))))) - h))<0)then if decide (0<=a)then if decide (a<(f.length:Int))then g2 (wrap .i64 (a+1),b,c,Int.fdiv (wrap .u64 (d+(wrap .u64 (e*(wrap .u64 (c.getD a.toNat 0)))))) 4294967296,e,f.set (0+a.toNat) (wrap .u32 (wrap .i64 ((wrap .i64 ((wrap .i64 (f.getD (0+a.toNat) 0)) - (wrap .i64 (wrap .u32 (wrap .u64 (d+(wrap .u64 (e*(wrap .u64 (c.getD a.toNat 0)))))))))) - h))),1,())else none else none else if decide (0<=a)then if decide (a<(f.length:Int))then g2 (wrap .i64 (a+1),b,c,Int.fdiv (wrap .u64 (d+(wrap .u64 (e*(wrap .u64 (c.getD a.toNat 0)))))) 4294967296,e,f.set (0+a.toNat) (wrap .u32 (wrap .i64 ((wrap .i64 ((wrap .i64 (f.getD (0+a.toNat) 0)) - (wrap .i64 (wrap .u32 (wrap .u64 (d+(wrap .u64 (e*(wrap .u64 (c.getD a.toNat 0)))))))))) - h))),0,())else none else none else none else none else none else none else if decide (0<=a)then if decide (a<(f.length:Int))then if decide ((wrap .i64 ((wrap .i64 ((wrap .i64 (f.getD (0+a.toNat) 0)) - (wrap .i64 (wrap .u32 d)))) - h))<0)then if decide (0<=a)then if decide (a<(f.length:Int))then g2 (wrap .i64 (a+1),b,c,Int.fdiv d 4294967296,e,f.set (0+a.toNat) (wrap .u32 (wrap .i64 ((wrap .i64 ((wrap .i64 (f.getD (0+a.toNat) 0)) - (wrap .i64 (wrap .u32 d)))) - h))),1,())else none else none else if decide (0<=a)then if decide (a<(f.length:Int))then g2 (wrap .i64 (a+1),b,c,Int.fdiv d 4294967296,e,f.set (0+a.toNat) (wrap .u32 (wrap .i64 ((wrap .i64 ((wrap .i64 (f.getD (0+a.toNat) 0)) - (wrap .i64 (wrap .u32 d)))) - h))),0,())else none else none else none else none else if h==0 then if d==0 then some (false,f,())else loopP P.a5r k (0,(f.length:Int),0,f,c,())else loopP P.a5r k (0,(f.length:Int),0,f,c,())) x1.1 x1.2.1 x1.2.2.2.1 x1.2.2.2.2.1 x1.2.2.2.2.2.2.1 x1.2.2.1 x1.2.2.2.2.2.1
def P.c6l (k:Nat) (x:List Int×List Int×Int×Unit):i_takeAway.A:=
 loopP (P.b3j k) k (0,(x.1.length:Int),x.2.1,0,x.2.2.1,x.1,0,())
theorem g4b (b:(Int×(Int×(Int×((List Int)×((List Int)×Unit)))))->((Int×(Int×(Int×((List Int)×((List Int)×Unit)))))->Option (Bool×((List Int)×Unit)))->Option (Bool×((List Int)×Unit))) (hb:b=P.a5r)
  (xs ys:List Int) (hx:dig B32 xs=true) (hy:dig B32 ys=true) (hl:ys.length<=xs.length) (hbig:xs.length<=100000000000):
  loopP b (xs.length+1) ((0:Int),((xs.length:Int),((0:Int),(xs,(ys,())))))=some (true,fd B32 xs.length (a0c B32 xs+a0c B32 ys),()):=by
 subst hb;have key:=a0g (k:=xs.length+1) (b:=P.a5r) (n:=xs.length) (st:=fun i=>((i:Int),(xs.length:Int),((a1e B32 xs ys i).2:Int),(a1e B32 xs ys i).1++xs.drop i,ys,())) (F:=fun i=>some (true,fd B32 xs.length (a0c B32 xs+a0c B32 ys),())) (fun i g hi hg=>by
  unfold P.a5r;dsimp only at hg ⊢;obtain⟨q1,q2,q3,q4⟩:=b3d a0d hx hy i;have gx:=a1a (B:=B32) (by decide) hx i;have gy:=a1a (B:=B32) (by decide) hy i;have gx1:xs.getD i 0<4294967296:=gx.2;have gy1:ys.getD i 0<4294967296:=gy.2;have gx0:=gx.1;have gy0:=gy.1;have hlen:((a1e B32 xs ys i).1++xs.drop i).length=xs.length:=by rw[List.length_append,q2,List.length_drop];omega
  have e1:(i:Int)<(xs.length:Int):=by omega
  have e2:(0:Int)<=(i:Int):=by omega
  rw[hlen];simp only[e1,e2,decide_true,if_true,Nat.zero_add,Int.toNat_natCast];rw[a3c hi,b0x q2];simp only[b2t q2];have hnat:∀n:Nat,n=(a1e B32 xs ys i).2+(xs.getD i 0).toNat+(ys.getD i 0).toNat->(((n%B32:Nat):Int)=(n:Int)%4294967296/\((n/B32:Nat):Int)=(n:Int)/4294967296):=by
   intro n _;constructor
   ·show((n%4294967296:Nat):Int)=_;omega
   ·show((n/4294967296:Nat):Int)=_;omega
  obtain⟨n1,n2⟩:=hnat _ rfl;rw[a1e]at hg;dsimp only at hg;rw[n1,n2]at hg
  by_cases hj:(i:Int)<(ys.length:Int)
  ·rw[if_pos (decide_eq_true hj),if_pos (decide_eq_true hj)];rw[wu (x:=xs.getD i 0) (by omega) (by omega),wu (x:=ys.getD i 0) (by omega) (by omega),wu (x:=((a1e B32 xs ys i).2:Int)+xs.getD i 0) (by omega) (by omega),wu (x:=((a1e B32 xs ys i).2:Int)+xs.getD i 0+ys.getD i 0) (by omega) (by omega),b9o _ (by omega),Int.fdiv_eq_ediv_of_nonneg _ (by omega),wr (by omega) (by omega)];have e:(((a1e B32 xs ys i).2+(xs.getD i 0).toNat+(ys.getD i 0).toNat:Nat):Int)=((a1e B32 xs ys i).2:Int)+xs.getD i 0+ys.getD i 0:=by omega
   rw[e]at hg;exact hg
  ·rw[if_neg (by simpa using hj)];have y0:ys.getD i 0=0:=by rw[List.getD_eq_getElem?_getD,List.getElem?_eq_none (by omega)];rfl
   rw[wu (x:=xs.getD i 0) (by omega) (by omega),wu (x:=((a1e B32 xs ys i).2:Int)+xs.getD i 0) (by omega) (by omega),b9o _ (by omega),Int.fdiv_eq_ediv_of_nonneg _ (by omega),wr (by omega) (by omega)];have e:(((a1e B32 xs ys i).2+(xs.getD i 0).toNat+(ys.getD i 0).toNat:Nat):Int)=((a1e B32 xs ys i).2:Int)+xs.getD i 0:=by omega
   rw[e]at hg;exact hg) (fun g=>by
  unfold P.a5r;dsimp only;rw[if_neg (by simp),List.drop_length,List.append_nil,g3a a0d hx hy hl]) (by omega)
 have e0:(a1e B32 xs ys 0).1++xs.drop 0=xs:=rfl;rw[e0]at key;exact key
def S.a8y (x:((List Int)×((List Int)×(Int×Unit)))):(Option (Bool×((List Int)×Unit))):=
 if dig B32 x.1=true/\dig B32 x.2.1=true/\0<=x.2.2.1/\x.2.2.1<4294967296/\x.2.1.length<=x.1.length/\x.1.length<=10000000000/\a0c B32 x.2.1*x.2.2.1.toNat<=a0c B32 x.1+a0c B32 x.2.1 then
  (if a0c B32 x.2.1*x.2.2.1.toNat<=a0c B32 x.1 then some (false,fd B32 x.1.length (a0c B32 x.1 - a0c B32 x.2.1*x.2.2.1.toNat),())
   else some (true,fd B32 x.1.length (a0c B32 x.1+a0c B32 x.2.1 - a0c B32 x.2.1*x.2.2.1.toNat),()))else none
theorem S.d9j (x r) (h:S.a8y x=some r):∃k,P.c6l k x=some r:=by
 obtain⟨xs,ys,t',u⟩:=x;unfold S.a8y at h;dsimp only at h;split at h
 case isFalse=>cases h
 rename_i hc;obtain⟨hx,hy,ht0,ht1,hl,hbig,hfit⟩:=hc;obtain⟨t,rfl⟩:∃d:Nat,t'=(d:Int):=⟨t'.toNat,by omega⟩
 rw[Int.toNat_natCast]at h hfit;have ht:t<=4294967295:=by omega
 refine⟨xs.length+1,?_⟩;rw[<-h];unfold P.c6l;dsimp only;have key:=a0g (k:=xs.length+1) (b:=P.b3j (xs.length+1)) (n:=xs.length) (st:=fun i=>((i:Int),(xs.length:Int),ys,((a2j B32 t xs ys i).2.1:Int),(t:Int),(a2j B32 t xs ys i).1++xs.drop i,((a2j B32 t xs ys i).2.2:Int),())) (F:=fun i=>(if a0c B32 ys*t<=a0c B32 xs then some (false,fd B32 xs.length (a0c B32 xs - a0c B32 ys*t),())
   else some (true,fd B32 xs.length (a0c B32 xs+a0c B32 ys - a0c B32 ys*t),()))) (fun i g hi hg=>by
  unfold P.b3j;dsimp only at hg ⊢;obtain⟨q1,q2,q3,q4,q5⟩:=b9p (t:=t) a0d hx hy i;have gx:=a1a (B:=B32) (by decide) hx i;have gy:=a1a (B:=B32) (by decide) hy i;have gx1:xs.getD i 0<4294967296:=gx.2;have gy1:ys.getD i 0<4294967296:=gy.2;have gx0:=gx.1;have gy0:=gy.1;have hlen:((a2j B32 t xs ys i).1++xs.drop i).length=xs.length:=by rw[List.length_append,q2,List.length_drop];omega
  have e1:(i:Int)<(xs.length:Int):=by omega
  have e2:(0:Int)<=(i:Int):=by omega
  rw[hlen];simp only[e1,e2,decide_true,if_true,Nat.zero_add,Int.toNat_natCast];rw[a3c hi,b0x q2];simp only[b2t q2];rw[a2j]at hg;dsimp only at hg;have y0:¬((i:Int)<(ys.length:Int))->ys.getD i 0=0:=by
   intro hj;rw[List.getD_eq_getElem?_getD,List.getElem?_eq_none (by omega)];rfl
  generalize xs.getD i 0=x at*;generalize ys.getD i 0=y at*;generalize a2j B32 t xs ys i=p at*;obtain⟨pl,c0,l0⟩:=p;dsimp only at*;obtain⟨Y,rfl⟩:∃Y:Nat,y=(Y:Int):=⟨y.toNat,by omega⟩
  rw[Int.toNat_natCast]at hg;have htY:t*Y<=4294967295*4294967295:=Nat.mul_le_mul ht (by omega);have em:(t:Int)*(Y:Int)=((t*Y:Nat):Int):=(Int.natCast_mul _ _).symm;have fin:∀c:Nat,c=c0+t*Y->(let n:=IntKind.wrap .i64 (IntKind.wrap .i64 (IntKind.wrap .i64 x - IntKind.wrap .i64 (IntKind.wrap .u32 (c:Int))) - (l0:Int))
    (if decide (n<0)=true then g (IntKind.wrap .i64 ((i:Int)+1),(xs.length:Int),ys,Int.fdiv (c:Int) 4294967296,(t:Int),(pl++[IntKind.wrap .u32 n])++xs.drop (i+1),1,())
     else g (IntKind.wrap .i64 ((i:Int)+1),(xs.length:Int),ys,Int.fdiv (c:Int) 4294967296,(t:Int),(pl++[IntKind.wrap .u32 n])++xs.drop (i+1),0,()))=(if a0c B32 ys*t<=a0c B32 xs then some (false,fd B32 xs.length (a0c B32 xs - a0c B32 ys*t),())
   else some (true,fd B32 xs.length (a0c B32 xs+a0c B32 ys - a0c B32 ys*t),()))):=by
   intro c hcc;rw[<-hcc]at hg;have e8:(c:Int)%4294967296=((c%B32:Nat):Int):=by
    show _=((c%4294967296:Nat):Int)
    omega
   have e9:Int.fdiv (c:Int) 4294967296=((c/B32:Nat):Int):=by
    rw[Int.fdiv_eq_ediv_of_nonneg _ (by omega)];show _=((c/4294967296:Nat):Int)
    omega
   have e10:c%B32<4294967296:=Nat.mod_lt _ (by decide);rw[b9o (c:Int) (by omega),e8,e9,wr (x:=(i:Int)+1) (by omega) (by omega),wr (x:=x) (by omega) (by omega),wr (x:=((c%B32:Nat):Int)) (by omega) (by omega),wr (x:=x - ((c%B32:Nat):Int)) (by omega) (by omega),wr (x:=x - ((c%B32:Nat):Int) - (l0:Int)) (by omega) (by omega)];dsimp only;rw[c3s]
   by_cases hn:x - ((c%B32:Nat):Int) - (l0:Int)<0
   ·rw[if_pos hn]at hg;rw[if_pos (decide_eq_true hn)];exact hg
   ·rw[if_neg hn]at hg;rw[if_neg (by simpa using hn)];exact hg
  by_cases hj:(i:Int)<(ys.length:Int)
  ·simp only[hj,decide_true,if_true];rw[wu (x:=(Y:Int)) (by omega) (by omega),em,wu (x:=((t*Y:Nat):Int)) (by omega) (by omega),<-Int.natCast_add,wu (x:=((c0+t*Y:Nat):Int)) (by omega) (by omega)];exact fin _ rfl
  ·rw[if_neg (by simpa using hj)];have hY:Y=0:=by have:=y0 hj;omega
   subst hY;exact fin c0 rfl) (fun g=>by
  unfold P.b3j;dsimp only;obtain⟨q1,q2,q3,q4,q5⟩:=b9p (t:=t) a0d hx hy xs.length;rw[List.take_length,List.take_of_length_le hl]at q3;rw[if_neg (by simp),List.drop_length,List.append_nil];generalize a2j B32 t xs ys xs.length=p at*;obtain⟨pl,c0,l0⟩:=p;dsimp only at*;have hlt:=a1m q1;rw[q2]at hlt;have hback:∀b,b=P.a5r->0<c0+l0->loopP b (xs.length+1) ((0:Int),((pl.length:Int),((0:Int),(pl,(ys,())))))=(if a0c B32 ys*t<=a0c B32 xs then some (false,fd B32 xs.length (a0c B32 xs - a0c B32 ys*t),())
   else some (true,fd B32 xs.length (a0c B32 xs+a0c B32 ys - a0c B32 ys*t),())):=by
   intro b hb hpos;have hge:B32^xs.length*1<=B32^xs.length*(c0+l0):=Nat.mul_le_mul_left _ hpos;rw[if_neg (by omega)];have:=g4b b hb pl ys q1 hy (by omega) (by omega);rw[q2]at this;rw[q2,this];congr 2;have e1:a0c B32 pl+a0c B32 ys=(a0c B32 xs+a0c B32 ys - a0c B32 ys*t)+B32^xs.length*(c0+l0):=by omega
   rw[e1,<-c1s B32 xs.length (_+_),Nat.add_mul_mod_self_left,c1s]
  by_cases hl0:l0=0
  ·subst hl0;rw[if_pos (by rfl)]
   by_cases hc0:c0=0
   ·subst hc0;rw[if_pos (by rfl),if_pos (by omega)];congr 2;have:pl=fd B32 xs.length (a0c B32 xs - a0c B32 ys*t):=f3l a0d q1 q2 (by omega);rw[this]
   ·rw[if_neg (by simp;omega)];exact hback _ rfl (by omega)
  ·rw[if_neg (by simp;omega)];exact hback _ rfl (by omega)) (by omega)
 exact key
abbrev i_nat_div.A:=Int×Int×Int×List Int×Int×Int×Int×List Int×List Int×Int×Unit
abbrev i_nat_div.B:=Int×List Int×List Int×Int×Int×List Int×Int×Unit
abbrev i_nat_div.C:=Option ((List Int×List Int)×Unit)
abbrev P.b3k (g20:i_nat_div.B->i_nat_div.C) (x22:i_nat_div.A) (g23:i_nat_div.A->i_nat_div.C):i_nat_div.C:=
 (fun(a b c e f h l:Int) (d i j:List Int)=>if decide (a>=4294967296)then if decide ((wrap .u64 (c+f))>=4294967296)then if decide (0<=(wrap .i64 (e+1)))then if decide (((wrap .i64 (e+1))+0)<=(d.length:Int))then if decide (0<=h)then if decide (h<=(wrap .i64 (e+1)))then(S.a8y (seen d (0+h.toNat) ((Int.toNat (wrap .i64 (e+1))) - h.toNat),i,wrap .u64 (a - 1),())).bind fun y24=>if y24.1 then if decide (0<=h)then if decide (h<(j.length:Int))then g20 (wrap .i64 (h - 1),i,splice d y24.2.1 (0+h.toNat),f,b,j.set (0+h.toNat) (wrap .u32 (wrap .u64 ((wrap .u64 (a - 1)) - 1))),l,())else none else none else if decide (0<=h)then if decide (h<(j.length:Int))then g20 (wrap .i64 (h - 1),i,splice d y24.2.1 (0+h.toNat),f,b,j.set (0+h.toNat) (wrap .u32 (wrap .u64 (a - 1))),l,())else none else none else none else none else none else none else g23 (wrap .u64 (a - 1),b,wrap .u64 (c+f),d,e,f,h,i,j,l,())else if decide (0<=(wrap .i64 (e - 2)))then if decide ((wrap .i64 (e - 2))<(d.length:Int))then if decide ((wrap .u64 (a*b))>(wrap .u64 ((wrap .u64 (c*4294967296))+(wrap .u64 (d.getD (0+(Int.toNat (wrap .i64 (e - 2)))) 0)))))then if decide ((wrap .u64 (c+f))>=4294967296)then if decide (0<=(wrap .i64 (e+1)))then if decide (((wrap .i64 (e+1))+0)<=(d.length:Int))then if decide (0<=h)then if decide (h<=(wrap .i64 (e+1)))then(S.a8y (seen d (0+h.toNat) ((Int.toNat (wrap .i64 (e+1))) - h.toNat),i,wrap .u64 (a - 1),())).bind fun y25=>if y25.1 then if decide (0<=h)then if decide (h<(j.length:Int))then g20 (wrap .i64 (h - 1),i,splice d y25.2.1 (0+h.toNat),f,b,j.set (0+h.toNat) (wrap .u32 (wrap .u64 ((wrap .u64 (a - 1)) - 1))),l,())else none else none else if decide (0<=h)then if decide (h<(j.length:Int))then g20 (wrap .i64 (h - 1),i,splice d y25.2.1 (0+h.toNat),f,b,j.set (0+h.toNat) (wrap .u32 (wrap .u64 (a - 1))),l,())else none else none else none else none else none else none else g23 (wrap .u64 (a - 1),b,wrap .u64 (c+f),d,e,f,h,i,j,l,())else if decide (0<=(wrap .i64 (e+1)))then if decide (((wrap .i64 (e+1))+0)<=(d.length:Int))then if decide (0<=h)then if decide (h<=(wrap .i64 (e+1)))then(S.a8y (seen d (0+h.toNat) ((Int.toNat (wrap .i64 (e+1))) - h.toNat),i,a,())).bind fun y26=>if y26.1 then if decide (0<=h)then if decide (h<(j.length:Int))then g20 (wrap .i64 (h - 1),i,splice d y26.2.1 (0+h.toNat),f,b,j.set (0+h.toNat) (wrap .u32 (wrap .u64 (a - 1))),l,())else none else none else if decide (0<=h)then if decide (h<(j.length:Int))then g20 (wrap .i64 (h - 1),i,splice d y26.2.1 (0+h.toNat),f,b,j.set (0+h.toNat) (wrap .u32 a),l,())else none else none else none else none else none else none else none else none) x22.1 x22.2.1 x22.2.2.1 x22.2.2.2.2.1 x22.2.2.2.2.2.1 x22.2.2.2.2.2.2.1 x22.2.2.2.2.2.2.2.2.2.1 x22.2.2.2.1 x22.2.2.2.2.2.2.2.1 x22.2.2.2.2.2.2.2.2.1
abbrev P.a9u (x28:Int×Int×List Int×Int×List Int×Unit) (g29:Int×Int×List Int×Int×List Int×Unit->i_nat_div.C):i_nat_div.C:=
 (fun(a b d:Int) (c e:List Int)=>if decide (a<b)then if decide ((wrap .i64 (a+1))<(c.length:Int))then if decide (0<=(wrap .i64 (a+1)))then if decide ((wrap .i64 (a+1))<(c.length:Int))then if decide (0<=a)then if decide (a<(c.length:Int))then if decide (d<0)then none else if decide (0<=a)then if decide (a<(c.length:Int))then g29 (wrap .i64 (a+1),b,c.set (0+a.toNat) (wrap .u32 (Int.fdiv (wrap .u64 ((wrap .u64 ((wrap .u64 (c.getD (0+(Int.toNat (wrap .i64 (a+1)))) 0))*4294967296))+(wrap .u64 (c.getD (0+a.toNat) 0)))) ((2:Int)^(Min.min d.toNat 64)))),d,e,())else none else none else none else none else none else none else if decide (0<=a)then if decide (a<(c.length:Int))then if decide (d<0)then none else if decide (0<=a)then if decide (a<(c.length:Int))then g29 (wrap .i64 (a+1),b,c.set (0+a.toNat) (wrap .u32 (Int.fdiv (wrap .u64 (0+(wrap .u64 (c.getD (0+a.toNat) 0)))) ((2:Int)^(Min.min d.toNat 64)))),d,e,())else none else none else none else none else if decide (e.length<=1000000000000)then if decide (c.length<=1000000000000)then some ((List.take (List.length (List.dropWhile (fun(y30:Int)=>y30==0) (List.reverseAux e []))) e,List.take (List.length (List.dropWhile (fun(y31:Int)=>y31==0) (List.reverseAux c []))) c),())else none else none) x28.1 x28.2.1 x28.2.2.2.1 x28.2.2.1 x28.2.2.2.2.1
abbrev P.a9v (k:Nat) (x19:i_nat_div.B) (g20:i_nat_div.B->i_nat_div.C):i_nat_div.C:=
 (fun(a d e h:Int) (b c f:List Int)=>if decide (a>=0)then if decide (0<=(wrap .i64 (a+(b.length:Int))))then if decide ((wrap .i64 (a+(b.length:Int)))<(c.length:Int))then if decide (0<=(wrap .i64 ((wrap .i64 (a+(b.length:Int))) - 1)))then if decide ((wrap .i64 ((wrap .i64 (a+(b.length:Int))) - 1))<(c.length:Int))then if decide (d=0)then none else if decide (d=0)then none else loopP (P.b3k g20) k (wrap .u64 (Int.tdiv (wrap .u64 ((wrap .u64 ((wrap .u64 (c.getD (0+(Int.toNat (wrap .i64 (a+(b.length:Int))))) 0))*4294967296))+(wrap .u64 (c.getD (0+(Int.toNat (wrap .i64 ((wrap .i64 (a+(b.length:Int))) - 1)))) 0)))) d),e,Int.tmod (wrap .u64 ((wrap .u64 ((wrap .u64 (c.getD (0+(Int.toNat (wrap .i64 (a+(b.length:Int))))) 0))*4294967296))+(wrap .u64 (c.getD (0+(Int.toNat (wrap .i64 ((wrap .i64 (a+(b.length:Int))) - 1)))) 0)))) d,c,wrap .i64 (a+(b.length:Int)),d,a,b,f,h,())else none else none else none else none else if decide (c.length<=1000000000000)then loopP P.a9u k (0,(List.length (List.take (List.length (List.dropWhile (fun(y32:Int)=>y32==0) (List.reverseAux c []))) c):Int),List.take (List.length (List.dropWhile (fun(y33:Int)=>y33==0) (List.reverseAux c []))) c,h,f,())else none) x19.1 x19.2.2.2.1 x19.2.2.2.2.1 x19.2.2.2.2.2.2.1 x19.2.1 x19.2.2.1 x19.2.2.2.2.2.1
def P.d1l (k:Nat) (x:List Int×List Int×Unit):i_nat_div.C:=
 (S.a1h (x.1,x.2.1,())).bind fun y0=>if decide (y0.1<0)then some (([],x.1),())else if(x.2.1.length:Int)==1 then if decide (0<(x.2.1.length:Int))then(S.a3d (x.1,x.2.1.getD 0 0,())).bind fun y1=>if decide ((List.length [y1.1.2])<=1000000000000)then some ((y1.1.1,List.take (List.length (List.filter.match_1 (fun(y2:Bool)=>List Int) (y1.1.2==0) (fun(y3:Unit)=>[]) (fun(y4:Unit)=>[y1.1.2]))) [y1.1.2]),())else none else none else if decide (0<=(wrap .i64 ((x.2.1.length:Int) - 1)))then if decide ((wrap .i64 ((x.2.1.length:Int) - 1))<(x.2.1.length:Int))then(S.a3k (x.2.1.getD (Int.toNat (wrap .i64 ((x.2.1.length:Int) - 1))) 0,())).bind fun y5=>(S.a3v (x.1,y5.1,())).bind fun y6=>(S.a3v (x.2.1,y5.1,())).bind fun y7=>if decide (y7.1.length<=1000000000000)then if decide (0<=(wrap .i64 ((List.length (List.take (List.length (List.dropWhile (fun(y8:Int)=>y8==0) (List.reverseAux y7.1 []))) y7.1):Int) - 1)))then if decide ((wrap .i64 ((List.length (List.take (List.length (List.dropWhile (fun(y9:Int)=>y9==0) (List.reverseAux y7.1 []))) y7.1):Int) - 1))<(List.length (List.take (List.length (List.dropWhile (fun(y10:Int)=>y10==0) (List.reverseAux y7.1 []))) y7.1):Int))then if decide (0<=(wrap .i64 ((List.length (List.take (List.length (List.dropWhile (fun(y11:Int)=>y11==0) (List.reverseAux y7.1 []))) y7.1):Int) - 2)))then if decide ((wrap .i64 ((List.length (List.take (List.length (List.dropWhile (fun(y12:Int)=>y12==0) (List.reverseAux y7.1 []))) y7.1):Int) - 2))<(List.length (List.take (List.length (List.dropWhile (fun(y13:Int)=>y13==0) (List.reverseAux y7.1 []))) y7.1):Int))then if decide (0<=(wrap .i64 ((y6.1.length:Int) - (List.length (List.take (List.length (List.dropWhile (fun(y14:Int)=>y14==0) (List.reverseAux y7.1 []))) y7.1):Int))))then if decide ((wrap .i64 ((y6.1.length:Int) - (List.length (List.take (List.length (List.dropWhile (fun(y15:Int)=>y15==0) (List.reverseAux y7.1 []))) y7.1):Int)))<=(wrap .i64 ((y6.1.length:Int) - (List.length (List.take (List.length (List.dropWhile (fun(y16:Int)=>y16==0) (List.reverseAux y7.1 []))) y7.1):Int))))then if decide (((wrap .i64 ((y6.1.length:Int) - (List.length (List.take (List.length (List.dropWhile (fun(y17:Int)=>y17==0) (List.reverseAux y7.1 []))) y7.1):Int)))*4)<=281474976710656)then loopP (P.a9v k) k (wrap .i64 ((List.length (List.replicate (Int.toNat (wrap .i64 ((y6.1.length:Int) - (List.length (List.take (List.length (List.dropWhile (fun(y34:Int)=>y34==0) (List.reverseAux y7.1 []))) y7.1):Int)))) (0:Int)):Int) - 1),List.take (List.length (List.dropWhile (fun(y35:Int)=>y35==0) (List.reverseAux y7.1 []))) y7.1,y6.1,wrap .u64 (List.getD (List.take (List.length (List.dropWhile (fun(y36:Int)=>y36==0) (List.reverseAux y7.1 []))) y7.1) (0+(Int.toNat (wrap .i64 ((List.length (List.take (List.length (List.dropWhile (fun(y37:Int)=>y37==0) (List.reverseAux y7.1 []))) y7.1):Int) - 1)))) 0),wrap .u64 (List.getD (List.take (List.length (List.dropWhile (fun(y38:Int)=>y38==0) (List.reverseAux y7.1 []))) y7.1) (0+(Int.toNat (wrap .i64 ((List.length (List.take (List.length (List.dropWhile (fun(y39:Int)=>y39==0) (List.reverseAux y7.1 []))) y7.1):Int) - 2)))) 0),List.replicate (Int.toNat (wrap .i64 ((y6.1.length:Int) - (List.length (List.take (List.length (List.dropWhile (fun(y40:Int)=>y40==0) (List.reverseAux y7.1 []))) y7.1):Int)))) 0,y5.1,())else none else none else none else none else none else none else none else none else none else none
theorem id_tail (g:(Int×((List Int)×((List Int)×(Int×(Int×((List Int)×(Int×Unit)))))))->(Option (((List Int)×(List Int))×Unit))) (F:Option (((List Int)×(List Int))×Unit)) {u0 vs:List Int} {m j:Nat} {top next sh:Int}
  (h0:dig B32 u0=true) (hv:dig B32 vs=true) (hN:u0.length=m+vs.length) (hbig:u0.length<=1000000000) (hj:j<m) (hV:0<a0c B32 vs)
  (hg:g ((j:Int) - 1,(vs,(ldU B32 (a0c B32 vs) u0 j,(top,(next,(ldQ B32 (a0c B32 vs) u0 m j,(sh,())))))))=F)
  (q:Nat) (hq:q<4294967296) (h1:ldW B32 (a0c B32 vs) u0 j/a0c B32 vs<=q) (h2:q*a0c B32 vs<ldW B32 (a0c B32 vs) u0 j+a0c B32 vs) (q':Int) (hq':q'=(q:Int)):
  (if((decide ((0:Int)<=(IntKind.wrap .i64 (((j+vs.length:Nat):Int)+(1:Int)))))=true)then(if((decide (((IntKind.wrap .i64 (((j+vs.length:Nat):Int)+(1:Int)))+(0:Int))<=((List.length (ldU B32 (a0c B32 vs) u0 (j+1))):Int)))=true)then(if((decide ((0:Int)<=(j:Int)))=true)then(if((decide ((j:Int)<=(IntKind.wrap .i64 (((j+vs.length:Nat):Int)+(1:Int)))))=true)then(Option.bind (S.a8y ((Go.Cm.seen (ldU B32 (a0c B32 vs) u0 (j+1)) ((0:Nat)+(Int.toNat (j:Int))) ((Int.toNat (IntKind.wrap .i64 (((j+vs.length:Nat):Int)+(1:Int)))) - (Int.toNat (j:Int)))),(vs,(q',())))) (fun(y26:(Bool×((List Int)×Unit)))=>(if(y26.1=true)then(if((decide ((0:Int)<=(j:Int)))=true)then(if((decide ((j:Int)<((List.length (ldQ B32 (a0c B32 vs) u0 m (j+1))):Int)))=true)then(g ((IntKind.wrap .i64 ((j:Int) - (1:Int))),(vs,((Go.Cm.splice (ldU B32 (a0c B32 vs) u0 (j+1)) y26.2.1 ((0:Nat)+(Int.toNat (j:Int)))),(top,(next,((List.set (ldQ B32 (a0c B32 vs) u0 m (j+1)) ((0:Nat)+(Int.toNat (j:Int))) (IntKind.wrap .u32 (IntKind.wrap .u64 (q' - (1:Int))))),(sh,()))))))))
 else none)
 else none)
 else(if((decide ((0:Int)<=(j:Int)))=true)then(if((decide ((j:Int)<((List.length (ldQ B32 (a0c B32 vs) u0 m (j+1))):Int)))=true)then(g ((IntKind.wrap .i64 ((j:Int) - (1:Int))),(vs,((Go.Cm.splice (ldU B32 (a0c B32 vs) u0 (j+1)) y26.2.1 ((0:Nat)+(Int.toNat (j:Int)))),(top,(next,((List.set (ldQ B32 (a0c B32 vs) u0 m (j+1)) ((0:Nat)+(Int.toNat (j:Int))) (IntKind.wrap .u32 q')),(sh,()))))))))
 else none)
 else none))))
 else none)
 else none)
 else none)
 else none)=F:=by
 subst hq';have hhi:=a1m hv;have hA:(u0.take j).length=j:=by simp;omega
 have hQ:=ld_Q a0d hV h0 (show j<u0.length by omega) hj;have hQl:(ldQ B32 (a0c B32 vs) u0 m (j+1)).length=m:=by unfold ldQ;rw[List.length_append,List.length_replicate,a3g];omega
 have hUl:=d0i a0d hV h0 hN hj hhi;have hs:=e8e a0d hV h0 (show j<u0.length by omega);have hs':=ld_U a0d hV h0 (show j<u0.length by omega);have hvl:vs.length<=vs.length+1:=by omega
 have hve:∀X,X<B32^(vs.length+1)->fd B32 (u0.length - j) X=fd B32 (vs.length+1) X++List.replicate (m - 1 - j) 0:=by
  intro X hX;rw[show u0.length - j=(vs.length+1)+(m - 1 - j) by omega,e3c hX]
 have hVl:a0c B32 vs<B32^(vs.length+1):=Nat.lt_of_lt_of_le hhi (Nat.pow_le_pow_right (by decide) hvl);generalize hn:vs.length=n at*;generalize hVV:a0c B32 vs=V at*;generalize hUU:ldW B32 V u0 j=U at*;have hdm:=Nat.mod_add_div U V;have hml:=Nat.mod_lt U hV;obtain⟨n1,n2⟩:=near hV h1 h2;generalize U/V=Q at*;generalize U%V=M at*;have hM:=hve M (by omega);have hU':=hve U hUl;rw[hM]at hs';rw[hU']at hs;generalize hR:List.replicate (m - 1 - j) (0:Int)=R at*;have hRl:R.length=m - 1 - j:=by rw[<-hR,List.length_replicate]
 have e1:(0:Int)<=(j:Int):=by omega
 have e2:(j:Int)<(m:Int):=by omega
 have e3:(0:Int)<=((j+n:Nat):Int)+1:=by omega
 have e4:(j:Int)<=((j+n:Nat):Int)+1:=by omega
 have hlen:(ldU B32 V u0 (j+1)).length=j+n+1+R.length:=by
  rw[hs,List.length_append,List.length_append,hA,a3g];omega
 have e5:((j+n:Nat):Int)+1+0<=((j+n+1+R.length:Nat):Int):=by omega
 rw[wr (x:=((j+n:Nat):Int)+1) (by omega) (by omega),hlen,hQl];simp only[e1,e2,e3,e4,e5,decide_true,if_true,Nat.zero_add,Int.toNat_natCast];have hseen:seen (ldU B32 V u0 (j+1)) j ((((j+n:Nat):Int)+1).toNat - j)=fd B32 (n+1) U:=by
  unfold seen;rw[hs,List.drop_left' hA,show(((j+n:Nat):Int)+1).toNat - j=n+1 by omega];exact List.take_left' (a3g _ _ _)
 have hspl:∀X,splice (ldU B32 V u0 (j+1)) (fd B32 (n+1) X) j=u0.take j++(fd B32 (n+1) X++R):=by
  intro X;unfold splice;rw[hs,List.take_left' hA,a3g,<-List.drop_drop,List.drop_left' hA,List.drop_left' (a3g _ _ _),List.append_assoc]
 rw[hseen];have hd:a0c B32 (fd B32 (n+1) U)=U:=by rw[b7m,Nat.mod_eq_of_lt hUl]
 unfold S.a8y;dsimp only;rw[a3g,hd,hVV,hn,Int.toNat_natCast,if_pos ⟨b5h (by decide) _ _,hv,by omega,by omega,by omega,by omega,by rw[Nat.mul_comm];omega⟩];rw[Nat.mul_comm q V]at n1 n2
 by_cases hle:V*q<=U
 ·have hqe:=n1 hle;have hsub:U - V*q=M:=by rw[hqe];omega
  rw[if_pos hle,Option.bind_some,hsub];dsimp only;rw[if_neg (by simp),hspl,<-hs',w32 (by omega) (by omega),hqe,hQ,wr (by omega) (by omega)];exact hg
 ·have hqe:=n2 (by omega);have hsub:U+V - V*q=M:=by rw[hqe,Nat.mul_add];omega
  rw[if_neg hle,Option.bind_some,hsub];dsimp only;rw[if_pos rfl,hspl,<-hs',wu (x:=(q:Int) - 1) (by omega) (by omega),w32 (by omega) (by omega),hqe,show((Q+1:Nat):Int) - 1=((Q:Nat):Int) by omega,hQ,wr (by omega) (by omega)];exact hg
theorem g4c (g:(Int×((List Int)×((List Int)×(Int×(Int×((List Int)×(Int×Unit)))))))->(Option (((List Int)×(List Int))×Unit))) (F:Option (((List Int)×(List Int))×Unit)) {u0 vs:List Int} {m j:Nat} {sh:Int}
  (h0:dig B32 u0=true) (hv:dig B32 vs=true) (hN:u0.length=m+vs.length) (hbig:u0.length<=1000000000) (hj:j<m) (hn2:2<=vs.length) (hlo:B32^(vs.length - 1)<=a0c B32 vs)
  (hg:g ((j:Int) - 1,(vs,(ldU B32 (a0c B32 vs) u0 j,(((a0c B32 vs/B32^(vs.length - 1):Nat):Int),(((a0c B32 vs/B32^(vs.length - 2)%B32:Nat):Int),(ldQ B32 (a0c B32 vs) u0 m j,(sh,())))))))=F) (w:Nat):
  ∀q r k:Nat,q*(a0c B32 vs/B32^(vs.length - 1))+r=ldW B32 (a0c B32 vs) u0 j/B32^(vs.length - 1)->ldW B32 (a0c B32 vs) u0 j/a0c B32 vs<=q->r<4294967296->4294967296 - r<=w->w<k->q<=18446744073709551615->
  loopP (P.b3k g) k ((q:Int),(((a0c B32 vs/B32^(vs.length - 2)%B32:Nat):Int),((r:Int),(ldU B32 (a0c B32 vs) u0 (j+1),(((j+vs.length:Nat):Int),(((a0c B32 vs/B32^(vs.length - 1):Nat):Int),((j:Int),(vs,(ldQ B32 (a0c B32 vs) u0 m (j+1),(sh,()))))))))))=F:=by
 have hV:0<a0c B32 vs:=Nat.lt_of_lt_of_le (Nat.pow_pos (by decide)) hlo;have hhi:=a1m hv;have hU:=f3m a0d hV h0 (show j<u0.length by omega);have win:=f1l a0d hn2 hlo hhi hU;have htail:=fun q hq h1 h2 q' hq'=>id_tail g F h0 hv hN hbig hj hV hg q hq h1 h2 q' hq'
 have g3:=d6p a0d hV h0 hN hj hhi (i:=vs.length - 2) (by omega);have hsl:(ldU B32 (a0c B32 vs) u0 (j+1)).length=m+vs.length:=by unfold ldU;rw[List.length_append,a3g,List.length_take];omega
 have hv1B:a0c B32 vs/B32^(vs.length - 1)<4294967296:=by
  have:a0c B32 vs/B32^(vs.length - 1)<B32:=by
   rw[Nat.div_lt_iff_lt_mul (Nat.pow_pos (by decide)),Nat.mul_comm,<-Nat.pow_succ,show(vs.length - 1).succ=vs.length by omega];exact hhi
  exact this
 have hv1:=win.hv1;generalize hX:ldW B32 (a0c B32 vs) u0 j/B32^(vs.length - 1)=X at*;generalize hv1e:a0c B32 vs/B32^(vs.length - 1)=v1 at*;have hv2B:a0c B32 vs/B32^(vs.length - 2)%B32<4294967296:=win.hv2;have hu2B:ldW B32 (a0c B32 vs) u0 j/B32^(vs.length - 2)%B32<4294967296:=win.hu2;generalize hv2e:a0c B32 vs/B32^(vs.length - 2)%B32=v2 at*;generalize hu2e:ldW B32 (a0c B32 vs) u0 j/B32^(vs.length - 2)%B32=u2 at*
 induction w with
 |zero=>intro q r k _ _ hr hw;omega
 |succ w ih=>
  intro q r k e hq hr hw hk hqb;obtain⟨k,rfl⟩:∃k',k=k'+1:=⟨k - 1,by omega⟩
  rw[a0k];unfold P.b3k;dsimp only;have c5:(0:Int)<=((j+vs.length:Nat):Int) - 2:=by omega
  have c6:((j+vs.length:Nat):Int) - 2<((m+vs.length:Nat):Int):=by omega
  have hwl:((m+vs.length:Nat):Int)=((List.length (ldU B32 (a0c B32 vs) u0 (j+1)):Nat):Int):=by rw[hsl]
  rw[hwl]at c6;have hstep:ldW B32 (a0c B32 vs) u0 j/a0c B32 vs<q->((r:Int)+(v1:Int)>=4294967296->(q - 1)<4294967296/\ldW B32 (a0c B32 vs) u0 j/a0c B32 vs<=q - 1/\(q - 1)*a0c B32 vs<ldW B32 (a0c B32 vs) u0 j+a0c B32 vs/\IntKind.wrap .u64 ((q:Int) - 1)=((q - 1:Nat):Int))/\(¬((r:Int)+(v1:Int)>=4294967296)->loopP (P.b3k g) k (IntKind.wrap .u64 ((q:Int) - 1),((v2:Int),((r:Int)+(v1:Int),(ldU B32 (a0c B32 vs) u0 (j+1),(((j+vs.length:Nat):Int),((v1:Int),((j:Int),(vs,(ldQ B32 (a0c B32 vs) u0 m (j+1),(sh,()))))))))))=F):=by
   intro hlt;have hq1:1<=q:=Nat.lt_of_le_of_lt (Nat.zero_le _) hlt;have eq1:IntKind.wrap .u64 ((q:Int) - 1)=((q - 1:Nat):Int):=by
    rw[wu (by omega) (by omega)];omega
   have e':(q - 1)*v1+(r+v1)=X:=by
    obtain⟨p,rfl⟩:∃p,q=p+1:=⟨q - 1,by omega⟩
    rw[Nat.add_mul,Nat.one_mul]at e;rw[Nat.add_sub_cancel];omega
   constructor
   ·intro hge;have hd:=win.done e' (.inr (show(4294967296:Nat)<=r+v1 by omega));exact⟨hd.1,by omega,hd.2,eq1⟩
   ·intro hge;rw[eq1,<-Int.natCast_add];exact ih (q - 1) (r+v1) k e' (by omega) (by omega) (by omega) (by omega) (by omega)
  rw[wu (x:=(r:Int)+(v1:Int)) (by omega) (by omega)]
  by_cases b1:q>=4294967296
  ·rw[if_pos (decide_eq_true (show(q:Int)>=4294967296 by omega))];obtain⟨s1,s2⟩:=hstep (win.down e hq (.inl b1))
   by_cases b2:(r:Int)+(v1:Int)>=4294967296
   ·rw[if_pos (decide_eq_true b2)];obtain⟨t1,t2,t3,t4⟩:=s1 b2;exact htail (q - 1) t1 t2 t3 _ t4
   ·rw[if_neg (by simpa using b2)];exact s2 b2
  ·rw[if_neg (by simp;omega)];rw[wr (x:=((j+vs.length:Nat):Int) - 2) (by omega) (by omega),if_pos (decide_eq_true c5),if_pos (decide_eq_true c6),show 0+(((j+vs.length:Nat):Int) - 2).toNat=j+(vs.length - 2) by omega,g3];have hqv:q*v2<=4294967295*4294967295:=Nat.mul_le_mul (by omega) (by omega);rw[<-Int.natCast_mul,wu (x:=((q*v2:Nat):Int)) (by omega) (by omega),wu (x:=(r:Int)*4294967296) (by omega) (by omega),wu (x:=(u2:Int)) (by omega) (by omega),wu (x:=(r:Int)*4294967296+(u2:Int)) (by omega) (by omega)]
   by_cases b3:q*v2>r*4294967296+u2
   ·rw[if_pos (decide_eq_true (show((q*v2:Nat):Int)>(r:Int)*4294967296+(u2:Int) by omega))];obtain⟨s1,s2⟩:=hstep (win.down e hq (.inr b3))
    by_cases b2:(r:Int)+(v1:Int)>=4294967296
    ·rw[if_pos (decide_eq_true b2)];obtain⟨t1,t2,t3,t4⟩:=s1 b2;exact htail (q - 1) t1 t2 t3 _ t4
    ·rw[if_neg (by simpa using b2)];exact s2 b2
   ·rw[if_neg (by simp;omega)];have hd:=win.done e (.inl ⟨show q<B32 by show q<4294967296;omega,show q*v2<=r*B32+u2 by show q*v2<=r*4294967296+u2;omega⟩);exact htail q hd.1 hq hd.2 _ rfl
theorem id_down {R sh:Nat} {qs:List Int} {n:Nat} (hn:(nd B32 R).length=n) (hsh:sh<=31) (hb:n<=1000000000) (hq:dig B32 qs=true) (hql:qs.length<=1000000000) (k:Nat) (hk:n<k):
  loopP P.a9u k ((0:Int),((n:Int),(nd B32 R,((sh:Int),(qs,())))))=some ((nd B32 (a0c B32 qs),nd B32 (R/2^sh)),()):=by
 have hRn:R<B32^n:=(a4o a0d R n).1 (by omega);have hpow:0<2^sh:=Nat.pow_pos (by decide);have hndfd:nd B32 R=fd B32 n R:=by
  have:=c5s (B:=B32) (by decide) (a4f a0d R);rw[hn,a0i a0d]at this;exact this.symm
 have key:=a0g (k:=k) (b:=P.a9u) (n:=n) (st:=fun i=>((i:Int),(n:Int),fd B32 i (R/2^sh)++fd B32 (n - i) (R/B32^i),(sh:Int),qs,())) (F:=fun i=>some ((nd B32 (a0c B32 qs),nd B32 (R/2^sh)),())) (fun i g hi hg=>by
  unfold P.a9u;dsimp only at hg ⊢;refine Eq.trans ?_ hg;clear hg;have hlen:(fd B32 i (R/2^sh)++fd B32 (n - i) (R/B32^i)).length=n:=by rw[List.length_append,a3g,a3g];omega
  have hfl:(fd B32 i (R/2^sh)).length=i:=a3g _ _ _;have e1:(i:Int)<(n:Int):=by omega
  have e2:(0:Int)<=(i:Int):=by omega
  have e3:¬((sh:Int)<0):=by omega
  have e4:(0:Int)<=(i:Int)+1:=by omega
  have emin:Min.min sh 64=sh:=by omega
  have ep:((2:Int)^sh)=((2^sh:Nat):Int):=by rw[Int.natCast_pow];rfl
  rw[hlen,wr (x:=(i:Int)+1) (by omega) (by omega)];simp only[e1,e2,e3,e4,decide_true,decide_false,if_true,if_false,Bool.false_eq_true,Nat.zero_add,Int.toNat_natCast];rw[emin,ep];have hsplit:fd B32 (n - i) (R/B32^i)=((R/B32^i%B32:Nat):Int)::fd B32 (n - (i+1)) (R/B32^(i+1)):=by
   rw[show n - i=(n - (i+1))+1 by omega,fd,Nat.div_div_eq_div_mul,Nat.pow_succ]
  rw[hsplit];simp only[b2t hfl,b0x hfl];have hx:R/B32^i%B32<4294967296:=Nat.mod_lt _ (by decide);have hy:R/B32^(i+1)%B32<4294967296:=Nat.mod_lt _ (by decide);have hval:∀Y:Nat,Y=R/B32^(i+1)%B32->IntKind.wrap .u32 (Int.fdiv (((Y*4294967296+R/B32^i%B32:Nat):Int)) ((2^sh:Nat):Int))=((R/2^sh/B32^i%B32:Nat):Int):=by
   intro Y hY;rw[Int.fdiv_eq_ediv_of_nonneg _ (by omega),<-Int.natCast_ediv,c3s];have e5:∀z:Nat,((z:Nat):Int)%4294967296=((z%B32:Nat):Int):=by
    intro z;show _=((z%4294967296:Nat):Int)
    omega
   rw[e5];congr 1;have e6:Y*4294967296+R/B32^i%B32=R/B32^i%(B32*B32):=by
    rw[hY,Nat.mod_mul,Nat.div_div_eq_div_mul,<-Nat.pow_succ,Nat.add_comm,Nat.mul_comm]
   have e7:R/2^sh/B32^i=R/B32^i/2^sh:=by rw[Nat.div_div_eq_div_mul,Nat.div_div_eq_div_mul,Nat.mul_comm]
   have e8:B32*B32=2^sh*(B32*2^(32 - sh)):=by
    have:B32=2^sh*2^(32 - sh):=by rw[<-Nat.pow_add,show sh+(32 - sh)=32 by omega]
    calc B32*B32=2^sh*2^(32 - sh)*B32:=by rw[<-this]
     _=2^sh*(B32*2^(32 - sh)):=by ac_rfl
   rw[e6,e7,e8,Nat.mod_mul_right_div_self,Nat.mod_mul_right_mod]
  by_cases hj:(i:Int)+1<(n:Int)
  ·have hj':fd B32 (n - (i+1)) (R/B32^(i+1))=((R/B32^(i+1)%B32:Nat):Int)::fd B32 (n - (i+1) - 1) (R/B32^(i+1)/B32):=by
    conv=>lhs;rw[show n - (i+1)=(n - (i+1) - 1)+1 by omega,fd]
   have hg2:(fd B32 i (R/2^sh)++((R/B32^i%B32:Nat):Int)::fd B32 (n - (i+1)) (R/B32^(i+1))).getD ((i:Int)+1).toNat 0=((R/B32^(i+1)%B32:Nat):Int):=by
    rw[hj',show((i:Int)+1).toNat=i+1 by omega,List.append_cons];exact b0x (by rw[List.length_append,hfl];rfl)
   rw[if_pos (decide_eq_true hj),if_pos (decide_eq_true hj),hg2];rw[wu (x:=((R/B32^(i+1)%B32:Nat):Int)) (by omega) (by omega),wu (x:=((R/B32^(i+1)%B32:Nat):Int)*4294967296) (by omega) (by omega),wu (x:=((R/B32^i%B32:Nat):Int)) (by omega) (by omega),wu (x:=((R/B32^(i+1)%B32:Nat):Int)*4294967296+((R/B32^i%B32:Nat):Int)) (by omega) (by omega),show((R/B32^(i+1)%B32:Nat):Int)*4294967296+((R/B32^i%B32:Nat):Int)=((R/B32^(i+1)%B32*4294967296+R/B32^i%B32:Nat):Int) by omega,hval _ rfl,<-e8c];rfl
  ·rw[if_neg (by simpa using hj)];have hn1:n=i+1:=by omega
   have h0:0=R/B32^(i+1)%B32:=by rw[<-hn1,Nat.div_eq_of_lt hRn,Nat.zero_mod]
   rw[wu (x:=((R/B32^i%B32:Nat):Int)) (by omega) (by omega),wu (x:=0+((R/B32^i%B32:Nat):Int)) (by omega) (by omega),show 0+((R/B32^i%B32:Nat):Int)=((0*4294967296+R/B32^i%B32:Nat):Int) by omega,hval 0 h0,<-e8c];rfl) (fun g=>by
  unfold P.a9u;dsimp only;have hRs:R/2^sh<B32^n:=Nat.lt_of_le_of_lt (Nat.div_le_self _ _) hRn;have hl1:qs.length<=1000000000000:=by omega
  have hfl:(fd B32 n (R/2^sh)).length=n:=a3g _ _ _;have hl2:(fd B32 n (R/2^sh)).length<=1000000000000:=by omega
  rw[if_neg (by simp),Nat.sub_self,show fd B32 0 (R/B32^n)=[]from rfl,List.append_nil,if_pos (decide_eq_true hl1),if_pos (decide_eq_true hl2),d0j a0d _ _ rfl hq,d0j a0d _ _ rfl (b5h (by decide) _ _),f3k a0d hRs]) hk
 rw[show fd B32 0 (R/2^sh)++fd B32 (n - 0) (R/B32^0)=nd B32 R by rw[hndfd,Nat.pow_zero,Nat.div_one];rfl]at key;exact key
theorem g4d {u0 vs:List Int} {m sh:Nat}
  (h0:dig B32 u0=true) (hv:dig B32 vs=true) (hN:u0.length=m+vs.length) (hbig:u0.length<=1000000000) (hn2:2<=vs.length) (hlo:B32^(vs.length - 1)<=a0c B32 vs) (hsh:sh<=31) (ht:a0c B32 (u0.drop m)<a0c B32 vs) (k:Nat) (hk:k=u0.length+4294967310):
  loopP (P.a9v k) k ((m:Int) - 1,(vs,(u0,(((a0c B32 vs/B32^(vs.length - 1):Nat):Int),(((a0c B32 vs/B32^(vs.length - 2)%B32:Nat):Int),(List.replicate m 0,((sh:Int),())))))))=some ((nd B32 (a0c B32 u0/a0c B32 vs),nd B32 (a0c B32 u0%a0c B32 vs/2^sh)),()):=by
 have hV:0<a0c B32 vs:=Nat.lt_of_lt_of_le (Nat.pow_pos (by decide)) hlo;have hhi:=a1m hv;obtain⟨f1,f2⟩:=f1k a0d hV h0 (show m<=u0.length by omega) ht;have key:=a0g (k:=k) (b:=P.a9v k) (n:=m) (st:=fun i=>((m:Int) - 1 - (i:Int),vs,ldU B32 (a0c B32 vs) u0 (m - i),((a0c B32 vs/B32^(vs.length - 1):Nat):Int),((a0c B32 vs/B32^(vs.length - 2)%B32:Nat):Int),ldQ B32 (a0c B32 vs) u0 m (m - i),(sh:Int),())) (F:=fun i=>some ((nd B32 (a0c B32 u0/a0c B32 vs),nd B32 (a0c B32 u0%a0c B32 vs/2^sh)),())) (fun i g hi hg=>by
  unfold P.a9v;dsimp only at hg ⊢;obtain⟨j,hj⟩:∃j,m - i=j+1:=⟨m - i - 1,by omega⟩
  have hjm:j<m:=by omega
  rw[show m - (i+1)=j by omega,show(m:Int) - 1 - ((i+1:Nat):Int)=(j:Int) - 1 by omega]at hg;rw[hj,show(m:Int) - 1 - (i:Int)=(j:Int) by omega];have hU:=f3m a0d hV h0 (show j<u0.length by omega);have win:=f1l a0d hn2 hlo hhi hU;have g3:=d6p a0d hV h0 hN hjm hhi (i:=vs.length) (by omega);have g4:=d6p a0d hV h0 hN hjm hhi (i:=vs.length - 1) (by omega);have hsl:(ldU B32 (a0c B32 vs) u0 (j+1)).length=m+vs.length:=by unfold ldU;rw[List.length_append,a3g,List.length_take];omega
  have hv1B:a0c B32 vs/B32^(vs.length - 1)<4294967296:=by
   have:a0c B32 vs/B32^(vs.length - 1)<B32:=by
    rw[Nat.div_lt_iff_lt_mul (Nat.pow_pos (by decide)),Nat.mul_comm,<-Nat.pow_succ,show(vs.length - 1).succ=vs.length by omega];exact hhi
   exact this
  have hv1:=win.hv1;have hxlt:=win.xlt;have hstart:=win.start;have hUl:=d0i a0d hV h0 hN hjm hhi;have hinner:=g4c g _ h0 hv hN hbig hjm hn2 hlo hg 4294967296;have hXe:ldW B32 (a0c B32 vs) u0 j/B32^vs.length%B32*4294967296+ldW B32 (a0c B32 vs) u0 j/B32^(vs.length - 1)%B32=ldW B32 (a0c B32 vs) u0 j/B32^(vs.length - 1):=by
   have hq:ldW B32 (a0c B32 vs) u0 j/B32^vs.length<B32:=by
    rw[Nat.div_lt_iff_lt_mul (Nat.pow_pos (by decide)),Nat.mul_comm,<-Nat.pow_succ];exact hUl
   rw[Nat.mod_eq_of_lt hq];have e:B32^vs.length=B32^(vs.length - 1)*B32:=by rw[<-Nat.pow_succ];congr 1;omega
   rw[e,<-Nat.div_div_eq_div_mul,Nat.mul_comm];exact Nat.div_add_mod _ _
  have hu1:ldW B32 (a0c B32 vs) u0 j/B32^vs.length%B32<4294967296:=Nat.mod_lt _ (by decide);have hu0:ldW B32 (a0c B32 vs) u0 j/B32^(vs.length - 1)%B32<4294967296:=Nat.mod_lt _ (by decide);generalize hX:ldW B32 (a0c B32 vs) u0 j/B32^(vs.length - 1)=X at*;generalize hv1e:a0c B32 vs/B32^(vs.length - 1)=v1 at*;generalize ldW B32 (a0c B32 vs) u0 j/B32^vs.length%B32=ua at*;generalize X%B32=ub at*;have c0:(j:Int)>=0:=by omega
  have c1:(0:Int)<=((j+vs.length:Nat):Int):=by omega
  have c2:((j+vs.length:Nat):Int)<((m+vs.length:Nat):Int):=by omega
  have c3:(0:Int)<=((j+vs.length:Nat):Int) - 1:=by omega
  have c4:((j+vs.length:Nat):Int) - 1<((m+vs.length:Nat):Int):=by omega
  have c7:¬((v1:Int)=0):=by omega
  rw[hsl,<-Int.natCast_add j,wr (x:=((j+vs.length:Nat):Int)) (by omega) (by omega),wr (x:=((j+vs.length:Nat):Int) - 1) (by omega) (by omega)];simp only[c0,c1,c2,c3,c4,c7,decide_true,decide_false,if_true,if_false,Bool.false_eq_true];rw[show 0+(((j+vs.length:Nat):Int)).toNat=j+vs.length by omega,show 0+(((j+vs.length:Nat):Int) - 1).toNat=j+(vs.length - 1) by omega,g3,g4];rw[wu (x:=(ua:Int)) (by omega) (by omega),wu (x:=(ub:Int)) (by omega) (by omega),wu (x:=(ua:Int)*4294967296) (by omega) (by omega),wu (x:=(ua:Int)*4294967296+(ub:Int)) (by omega) (by omega),show(ua:Int)*4294967296+(ub:Int)=(X:Int) by omega,Int.tdiv_eq_ediv_of_nonneg (by omega),Int.tmod_eq_emod_of_nonneg (by omega),<-Int.natCast_ediv,<-Int.natCast_emod];have hX18:X<=18446744073709551615:=by omega
  have hXd:X/v1<=X:=Nat.div_le_self _ _;have hml:=Nat.mod_lt X hv1;have hdm:X/v1*v1+X%v1=X:=by rw[Nat.mul_comm];exact Nat.div_add_mod _ _
  generalize X/v1=qq at*;generalize X%v1=rr at*;rw[wu (x:=(qq:Int)) (by omega) (by omega)];exact hinner qq rr k hdm hstart (by omega) (by omega) (by omega) (by omega)) (fun g=>by
  unfold P.a9v;dsimp only;rw[if_neg (by simp;omega),Nat.sub_self];have hVN:a0c B32 vs<=B32^u0.length:=Nat.le_trans (Nat.le_of_lt hhi) (Nat.pow_le_pow_right (by decide) (by omega));obtain⟨l1,l2,l3,l4,l5,l6⟩:=f7a a0d hV h0 (show m<=u0.length by omega) ht hVN;have hul:(nd B32 (a0c B32 u0%a0c B32 vs)).length<=u0.length:=by
   rw[a4o a0d,<-l1,<-l5];exact a1m l3
  have hl1:(ldU B32 (a0c B32 vs) u0 0).length<=1000000000000:=by omega
  rw[if_pos (decide_eq_true hl1),d0j a0d _ _ rfl l3,l1,id_down rfl hsh (by omega) l4 (by omega) k (by omega),l2]) (by omega)
 rw[Nat.sub_zero,f1,f2]at key;rw[<-key,show(m:Int) - 1 - ((0:Nat):Int)=(m:Int) - 1 by omega]
def S.a5d (x:((List Int)×((List Int)×Unit))):(Option (((List Int)×(List Int))×Unit)):=if a2y B32 x.1=true/\a2y B32 x.2.1=true/\x.2.1≠ []/\x.1.length<=100000000/\x.2.1.length<=100000000 then some ((nd B32 (a0c B32 x.1/a0c B32 x.2.1),nd B32 (a0c B32 x.1%a0c B32 x.2.1)),())else none
theorem S.e4a (x r) (h:S.a5d x=some r):∃k,P.d1l k x=some r:=by
 obtain⟨as,bs,u⟩:=x;unfold S.a5d at h;dsimp only at h;split at h
 case isFalse=>cases h
 rename_i hc;obtain⟨ca,cb,hne,la,lb⟩:=hc;cases h;have da:=a1o ca;have db:=a1o cb;have hbpos:0<bs.length:=List.length_pos_iff.2 hne;have hb0:a0c B32 bs≠0:=by
  intro q;have:=a1l cb;rw[q,a1t a0d]at this;exact hne this.symm
 have hlow:=e3b a0d hb0;rw[a1l cb]at hlow;have hhib:=a1m db;have hhia:=a1m da;have sc:S.a1h (as,(bs,()))=some (b0u (a0c B32 as) (a0c B32 bs),()):=by
  unfold S.a1h;exact if_pos ⟨ca,cb,by dsimp only;omega⟩
 refine⟨(as.length+1)+4294967310,?_⟩;unfold P.d1l;dsimp only;rw[sc,Option.bind_some];dsimp only
 by_cases hlt:a0c B32 as<a0c B32 bs
 ·rw[if_pos (decide_eq_true (c2g.2 hlt)),Nat.div_eq_of_lt hlt,Nat.mod_eq_of_lt hlt,a1t a0d,a1l ca]
 ·rw[if_neg (by simpa [c2g]using hlt)]
  by_cases h1:bs.length=1
  ·obtain⟨b0,rfl⟩:∃b0,bs=[b0]:=by
    match bs,h1 with
    | [b0],_=>exact⟨b0,rfl⟩
   rw[if_pos (by rfl),if_pos (by rfl)];have hb:a0c B32 [b0]=b0.toNat:=by simp [a0c]
   have hbd:=(a2m _ _).1 db;have hbd1:b0<4294967296:=hbd.1.2;rw[hb]at hb0 ⊢;show Option.bind (S.a3d (as,(b0,()))) _=_;unfold S.a3d;dsimp only;have hm:=Nat.mod_lt (a0c B32 as) (show 0<b0.toNat by omega);rw[if_pos ⟨da,by omega,by omega,by omega⟩,Option.bind_some];dsimp only;generalize a0c B32 as%b0.toNat=M at*;have hone:dig B32 [(M:Int)]=true:=by
    rw[a2m];refine⟨⟨by omega,?_⟩,rfl⟩;show(M:Int)<4294967296;omega
   have ht:=d0j a0d 1 [(M:Int)] rfl hone;rw[show a0c B32 [(M:Int)]=M by simp [a0c]]at ht;rw[if_pos (by rfl),<-ht];rfl
  ·rw[if_neg (by simp;omega)];have hn2:2<=bs.length:=by omega
   have c1:(0:Int)<=(bs.length:Int) - 1:=by omega
   have c2:(bs.length:Int) - 1<(bs.length:Int):=by omega
   have hbtB:a0c B32 bs/B32^(bs.length - 1)<4294967296:=by
    have:a0c B32 bs/B32^(bs.length - 1)<B32:=by
     rw[Nat.div_lt_iff_lt_mul (Nat.pow_pos (by decide)),Nat.mul_comm,<-Nat.pow_succ,show(bs.length - 1).succ=bs.length by omega];exact hhib
    exact this
   have hbt0:0<a0c B32 bs/B32^(bs.length - 1):=Nat.div_pos hlow (Nat.pow_pos (by decide));have g1:=c2f a0d db (i:=bs.length - 1) (by omega);rw[show a0c B32 bs/B32^(bs.length - 1)%B32=a0c B32 bs/B32^(bs.length - 1)from Nat.mod_eq_of_lt hbtB]at g1;have hbt1:a0c B32 bs<(a0c B32 bs/B32^(bs.length - 1)+1)*B32^(bs.length - 1):=by
    have:=Nat.lt_div_mul_add (show 0<B32^(bs.length - 1)from Nat.pow_pos (by decide)) (a:=a0c B32 bs);rw[Nat.add_mul,Nat.one_mul];exact this
   generalize hbt:a0c B32 bs/B32^(bs.length - 1)=bt at*;rw[wr (x:=(bs.length:Int) - 1) (by omega) (by omega),if_pos (decide_eq_true c1),if_pos (decide_eq_true c2),show((bs.length:Int) - 1).toNat=bs.length - 1 by omega,g1];unfold S.a3k;dsimp only;rw[if_pos ⟨by omega,by omega⟩,Option.bind_some,Int.toNat_natCast];dsimp only;obtain⟨b1,b2,b3⟩:=Go.Lib.bitLenAux_bounds 64 bt (by omega) (by omega);have hL32:Go.Lib.bitLen bt<=32:=Go.Lib.bitLen_le bt 32 (by decide) (by omega);have hL:Go.Lib.bitLen bt=Go.Lib.bitLenAux 64 bt:=rfl;rw[<-hL]at b1 b2 b3;generalize Go.Lib.bitLen bt=L at*;obtain⟨sh,hsh⟩:∃sh:Nat,sh=32 - L:=⟨_,rfl⟩
   have hsh1:sh<=31:=by omega
   have hsI:(32:Int) - (L:Int)=(sh:Int):=by omega
   rw[hsI];have hpow:0<2^sh:=Nat.pow_pos (by decide);have hd2:(bt+1)*2^sh<=B32:=by
    have h3:(bt+1)*2^sh<=2^L*2^sh:=Nat.mul_le_mul_right _ b3;rw[<-Nat.pow_add,show L+sh=32 by omega]at h3;exact h3
   have m1:S.a3v (as,((sh:Int),()))=some (fd B32 (as.length+1) (a0c B32 as*2^sh),()):=by
    unfold S.a3v;exact if_pos ⟨da,by dsimp only;omega,by dsimp only;omega,by dsimp only;omega⟩
   have m2:S.a3v (bs,((sh:Int),()))=some (fd B32 (bs.length+1) (a0c B32 bs*2^sh),()):=by
    unfold S.a3v;exact if_pos ⟨db,by dsimp only;omega,by dsimp only;omega,by dsimp only;omega⟩
   rw[m1,Option.bind_some,m2,Option.bind_some];dsimp only;have hvhi:a0c B32 bs*2^sh<B32^bs.length:=by
    have h3:a0c B32 bs*2^sh<(bt+1)*B32^(bs.length - 1)*2^sh:=Nat.mul_lt_mul_of_pos_right hbt1 hpow;have h4:(bt+1)*B32^(bs.length - 1)*2^sh=(bt+1)*2^sh*B32^(bs.length - 1):=by ac_rfl
    have h5:(bt+1)*2^sh*B32^(bs.length - 1)<=B32*B32^(bs.length - 1):=Nat.mul_le_mul_right _ hd2;have h6:B32*B32^(bs.length - 1)=B32^bs.length:=by rw[Nat.mul_comm,<-Nat.pow_succ];congr 1;omega
    omega
   have hvlo:B32^(bs.length - 1)<=a0c B32 bs*2^sh:=Nat.le_trans hlow (Nat.le_mul_of_pos_right _ hpow);have hvl:(nd B32 (a0c B32 bs*2^sh)).length=bs.length:=by
    have h3:=(a4o a0d (a0c B32 bs*2^sh) bs.length).2 hvhi;have h4:=a4o a0d (a0c B32 bs*2^sh) (bs.length - 1);have h5:¬(nd B32 (a0c B32 bs*2^sh)).length<=bs.length - 1:=by
     rw[h4];omega
    omega
   have hahi:a0c B32 as*2^sh<B32^(as.length+1):=by
    have h3:2^sh<=B32:=Nat.le_trans (Nat.pow_le_pow_right (by decide) hsh1) (by decide);rw[Nat.pow_succ];exact Nat.lt_of_lt_of_le (Nat.mul_lt_mul_of_pos_right hhia hpow) (Nat.mul_le_mul_left _ h3)
   have hab:bs.length<=as.length:=by
    rcases Nat.lt_or_ge as.length bs.length with g|g
    ·have:=b0v a0d ca cb g;omega
    ·exact g
   have htr:List.take (List.length (List.dropWhile (fun y:Int=>(y==(0:Int))) (List.reverseAux (fd B32 (bs.length+1) (a0c B32 bs*2^sh)) ([]:List Int)))) (fd B32 (bs.length+1) (a0c B32 bs*2^sh))=nd B32 (a0c B32 bs*2^sh):=by
    rw[d0j a0d _ _ rfl (b5h (by decide) _ _),f3k a0d (Nat.lt_of_lt_of_le hvhi (Nat.pow_le_pow_right (by decide) (by omega)))]
   rw[htr,a3g,a3g];have hdw:a0c B32 (nd B32 (a0c B32 bs*2^sh))=a0c B32 bs*2^sh:=a0i a0d _;have hdv':=a4f a0d (a0c B32 bs*2^sh);have hu0:a0c B32 (fd B32 (as.length+1) (a0c B32 as*2^sh))=a0c B32 as*2^sh:=by rw[b7m,Nat.mod_eq_of_lt hahi]
   have hul:(fd B32 (as.length+1) (a0c B32 as*2^sh)).length=as.length+1:=a3g _ _ _;have hud:dig B32 (fd B32 (as.length+1) (a0c B32 as*2^sh))=true:=b5h (by decide) _ _;generalize nd B32 (a0c B32 bs*2^sh)=vs at*;generalize fd B32 (as.length+1) (a0c B32 as*2^sh)=u0 at*;have ht:a0c B32 (u0.drop (as.length+1 - bs.length))<a0c B32 bs*2^sh:=ld_top (n:=vs.length) a0d hud hu0 hpow (by omega) (by rw[show as.length+1 - bs.length+vs.length - 1=as.length by omega];exact hhia) (by omega) (by rw[hvl];exact hlow);have hmain:=g4d (m:=as.length+1 - bs.length) (sh:=sh) hud hdv' (by omega) (by omega) (by omega) (by rw[hvl,hdw];exact hvlo) hsh1 (by rw[hdw];exact ht) ((as.length+1)+4294967310) (by omega);have g2:=c2f a0d hdv' (i:=vs.length - 1) (by omega);have g3:=c2f a0d hdv' (i:=vs.length - 2) (by omega);have hv1B:a0c B32 vs/B32^(vs.length - 1)<4294967296:=by
    have:a0c B32 vs/B32^(vs.length - 1)<B32:=by
     rw[Nat.div_lt_iff_lt_mul (Nat.pow_pos (by decide)),Nat.mul_comm,<-Nat.pow_succ,show(vs.length - 1).succ=vs.length by omega];exact a1m hdv'
    exact this
   rw[show a0c B32 vs/B32^(vs.length - 1)%B32=a0c B32 vs/B32^(vs.length - 1)from Nat.mod_eq_of_lt hv1B]at g2;have hv2B:a0c B32 vs/B32^(vs.length - 2)%B32<4294967296:=Nat.mod_lt _ (by decide);generalize a0c B32 vs/B32^(vs.length - 1)=v1 at*;generalize a0c B32 vs/B32^(vs.length - 2)%B32=v2 at*;have e9:(((as.length+1:Nat):Int) - (vs.length:Int))=((as.length+1 - bs.length:Nat):Int):=by omega
   have c3:(bs.length+1)<=1000000000000:=by omega
   have c4:(0:Int)<=(vs.length:Int) - 1:=by omega
   have c5:(vs.length:Int) - 1<(vs.length:Int):=by omega
   have c6:(0:Int)<=(vs.length:Int) - 2:=by omega
   have c7:(vs.length:Int) - 2<(vs.length:Int):=by omega
   have c8:(0:Int)<=((as.length+1 - bs.length:Nat):Int):=by omega
   have c9:((as.length+1 - bs.length:Nat):Int)*4<=281474976710656:=by omega
   rw[e9,wr (x:=((as.length+1 - bs.length:Nat):Int)) (by omega) (by omega),wr (x:=(vs.length:Int) - 1) (by omega) (by omega),wr (x:=(vs.length:Int) - 2) (by omega) (by omega)];simp only[c3,c4,c5,c6,c7,c8,c9,decide_true,if_true,Int.le_refl,Int.toNat_natCast,List.length_replicate,Nat.zero_add];rw[show((vs.length:Int) - 1).toNat=vs.length - 1 by omega,show((vs.length:Int) - 2).toNat=vs.length - 2 by omega,g2,g3,wu (x:=(v1:Int)) (by omega) (by omega),wu (x:=(v2:Int)) (by omega) (by omega),wr (x:=((as.length+1 - bs.length:Nat):Int) - 1) (by omega) (by omega),hmain,hu0,hdw,Nat.mul_div_mul_right _ _ hpow,Nat.mul_mod_mul_right,Nat.mul_div_cancel _ hpow]
abbrev P.a8d (x1:Int×List Int×Int×Unit) (g2:Int×List Int×Int×Unit->Option ((Int×Bool)×Unit)):Option ((Int×Bool)×Unit):=
 if decide (x1.1>=0)then if decide ((x1.2.1.length:Int)<=2)then if decide (0<=x1.1)then if decide (x1.1<(x1.2.1.length:Int))then g2 (wrap .i64 (x1.1 - 1),x1.2.1,wrap .u64 ((wrap .u64 (x1.2.2.1*4294967296))+(wrap .u64 (x1.2.1.getD x1.1.toNat 0))),())else none else none else some ((x1.2.2.1,decide ((x1.2.1.length:Int)<=2)),())else some ((x1.2.2.1,decide ((x1.2.1.length:Int)<=2)),())
def P.b8b (k:Nat) (x:List Int×Unit):Option ((Int×Bool)×Unit):=
 loopP P.a8d k (wrap .i64 ((x.1.length:Int) - 1),x.1,0,())
def S.a5s (x:((List Int)×Unit)):(Option ((Int×Bool)×Unit)):=if dig B32 x.1=true/\x.1.length<=1000000000000 then some ((if x.1.length<=2 then((a0c B32 x.1:Nat):Int)else 0,decide (x.1.length<=2)),())else none
theorem S.d4w (x r) (h:S.a5s x=some r):∃k,P.b8b k x=some r:=by
 obtain⟨xs,u⟩:=x;unfold S.a5s at h;dsimp only at h;split at h
 case isFalse=>cases h
 rename_i hc;obtain⟨hd,hl⟩:=hc;cases h
 by_cases h2:xs.length<=2
 ·refine⟨xs.length+1,?_⟩;unfold P.b8b;dsimp only;rw[if_pos h2,decide_eq_true h2,wr (by omega) (by omega)];have key:=a0g (k:=xs.length+1) (b:=P.a8d) (n:=xs.length) (st:=fun j=>((xs.length:Int) - 1 - (j:Int),xs,((a0c B32 (xs.drop (xs.length - j)):Nat):Int),())) (F:=fun j=>some ((((a0c B32 xs:Nat):Int),true),())) (fun j g hj hg=>by
   unfold P.a8d;dsimp only at hg ⊢;have e1:(xs.length:Int) - 1 - (j:Int)>=0:=by omega
   have e2:(xs.length:Int)<=2:=by omega
   have e3:(0:Int)<=(xs.length:Int) - 1 - (j:Int):=by omega
   have e4:(xs.length:Int) - 1 - (j:Int)<(xs.length:Int):=by omega
   simp only[e1,e2,e4,decide_true,if_true];have hi:xs.length - (j+1)<xs.length:=by omega
   have e5:(xs.length:Int) - 1 - (j:Int)=((xs.length - (j+1):Nat):Int):=by omega
   rw[e5,a0m xs _ _ hi];have e6:xs.drop (xs.length - (j+1))=xs[xs.length - (j+1)]::xs.drop (xs.length - j):=by
    rw[List.drop_eq_getElem_cons hi];congr 2;omega
   have hx:=b5y hd hi;have hv:a0c B32 (xs.drop (xs.length - j))<B32^1:=by
    have hdd:dig B32 (xs.drop (xs.length - j))=true:=by
     have:=List.take_append_drop (xs.length - j) xs;rw[<-this,a1j,Bool.and_eq_true]at hd;exact hd.2
    have:=a1m hdd;have hp:B32^(xs.drop (xs.length - j)).length<=B32^1:=Nat.pow_le_pow_right (by decide) (by simp;omega);omega
   have hv':a0c B32 (xs.drop (xs.length - j))<4294967296:=hv;have hx':xs[xs.length - (j+1)]<4294967296:=hx.2;rw[e6]at hg;rw[<-hg,wr (by omega) (by omega),wu (x:=(a0c B32 (xs.drop (xs.length - j)):Int)*4294967296) (by omega) (by omega),wu (x:=xs[xs.length - (j+1)]) (by omega) (by omega),wu (by omega) (by omega)];congr 1;simp only[Prod.mk.injEq,a0c];refine⟨by omega,trivial,?_,trivial⟩;show _=(((xs[xs.length - (j+1)]).toNat+4294967296*a0c B32 (xs.drop (xs.length - j)):Nat):Int)
   omega) (fun g=>by
   unfold P.a8d;dsimp only;rw[if_neg (by simp;omega),Nat.sub_self,List.drop_zero,decide_eq_true (by omega)]) (by omega)
  have e0:a0c B32 (xs.drop (xs.length - 0))=0:=by rw[Nat.sub_zero,List.drop_length];rfl
  rw[show(xs.length:Int) - 1 - ((0:Nat):Int)=(xs.length:Int) - 1 by omega,e0]at key;exact key
 ·refine⟨1,?_⟩;unfold P.b8b;rw[a0k];unfold P.a8d;dsimp only;rw[wr (by omega) (by omega),if_pos (decide_eq_true (by omega)),if_neg (by simp;omega),if_neg h2,decide_eq_false h2,decide_eq_false (by omega)]
abbrev i_nat_gcd.A:=Option (List Int×Unit)
abbrev P.c0b (x6:Int×Int×Unit) (g7:Int×Int×Unit->i_nat_gcd.A):i_nat_gcd.A:=
 if decide (x6.1>0)then if decide (x6.1=0)then none else g7 (Int.tmod x6.2.1 x6.1,x6.1,())else(S.a3h (x6.2.1,())).bind fun y8=>some (y8.1,())
abbrev P.b5q (k:Nat) (x1:List Int×List Int×Unit) (g2:List Int×List Int×Unit->i_nat_gcd.A):i_nat_gcd.A:=
 if decide ((x1.1.length:Int)>0)then(S.a5s (x1.2.1,())).bind fun y3=>(S.a5s (x1.1,())).bind fun y4=>if y3.1.2 then if y4.1.2 then loopP P.c0b k (y4.1.1,y3.1.1,())else(S.a5d (x1.2.1,x1.1,())).bind fun y9=>g2 (y9.1.2,x1.1,())else(S.a5d (x1.2.1,x1.1,())).bind fun y10=>g2 (y10.1.2,x1.1,())else some (x1.2.1,())
def P.d1m (k:Nat) (x:List Int×List Int×Unit):i_nat_gcd.A:=
 loopP (P.b5q k) k (x.2.1,x.1,())
theorem e4b {B:Nat} (hB:2<=B) {xs:List Int} (h:a2y B xs=true) (hn:xs≠ []):a0c B xs≠0:=by
 intro q;have:=a1l h;rw[q,a1t hB]at this;exact hn this.symm
theorem f4f {B:Nat} (hB:2<=B) {m n:Nat} (h:m<=n):(nd B m).length<=(nd B n).length:=by
 rw[a4o hB];exact Nat.lt_of_le_of_lt h ((a4o hB n _).1 (Nat.le_refl _))
theorem g4e (n:Nat):∀(x y:Nat) (k:Nat),y<=n->n<k->x<18446744073709551616->y<18446744073709551616->loopP P.c0b k ((y:Int),((x:Int),()))=some (nd B32 (Nat.gcd x y),()):=by
 induction n using Nat.strongRecOn with
 |ind n ih=>
  intro x y k hn hk hx hy;obtain⟨k,rfl⟩:∃j,k=j+1:=⟨k - 1,by omega⟩
  rw[a0k];unfold P.c0b;dsimp only
  by_cases hb:y=0
  ·subst hb;rw[if_neg (by simp),Nat.gcd_zero_right];unfold S.a3h;dsimp only;rw[if_pos ⟨by omega,by omega⟩,Option.bind_some,Int.toNat_natCast]
  ·have hm:=Nat.mod_lt x (show 0<y by omega);have c1:(y:Int)>0:=by omega
   have c2:¬((y:Int)=0):=by omega
   rw[if_pos (decide_eq_true c1),if_neg (by simpa using hb),Int.tmod_eq_emod_of_nonneg (by omega),<-Int.natCast_emod,ih (x%y) (by omega) y (x%y) k (Nat.le_refl _) (by omega) hy (by omega),d8t]
theorem ig_loop (K n:Nat):∀(as bs:List Int) (k:Nat),a2y B32 as=true->a2y B32 bs=true->as.length<=100000000->bs.length<=100000000->a0c B32 bs<=n->n<k->n<K->loopP (P.b5q K) k (bs,(as,()))=some (nd B32 (Nat.gcd (a0c B32 as) (a0c B32 bs)),()):=by
 induction n using Nat.strongRecOn with
 |ind n ih=>
  intro as bs k ca cb la lb hn hk hK;obtain⟨k,rfl⟩:∃j,k=j+1:=⟨k - 1,by omega⟩
  rw[a0k];unfold P.b5q;dsimp only
  by_cases hb:bs=[]
  ·subst hb;rw[if_neg (by simp),show a0c B32 []=0 from rfl,Nat.gcd_zero_right,a1l ca]
  ·have hpos:0<bs.length:=List.length_pos_iff.2 hb;have hb0:=e4b a0d cb hb;have hm:=Nat.mod_lt (a0c B32 as) (show 0<a0c B32 bs by omega);have hc:(bs.length:Int)>0:=by omega
   rw[if_pos (decide_eq_true hc)];have sa:S.a5s (as,())=some ((if as.length<=2 then((a0c B32 as:Nat):Int)else 0,decide (as.length<=2)),()):=by
    unfold S.a5s;exact if_pos ⟨a1o ca,by dsimp only;omega⟩
   have sb:S.a5s (bs,())=some ((if bs.length<=2 then((a0c B32 bs:Nat):Int)else 0,decide (bs.length<=2)),()):=by
    unfold S.a5s;exact if_pos ⟨a1o cb,by dsimp only;omega⟩
   rw[sa,Option.bind_some,sb,Option.bind_some];dsimp only;have hsmall:∀xs:List Int,dig B32 xs=true->xs.length<=2->a0c B32 xs<18446744073709551616:=by
    intro xs hd hl;have h1:=a1m hd;have h2:B32^xs.length<=B32^2:=Nat.pow_le_pow_right (by decide) hl;have h3:B32^2=18446744073709551616:=rfl;omega
   have hbig:Option.bind (S.a5d (as,(bs,()))) (fun(y9:(((List Int)×(List Int))×Unit))=>(loopP (P.b5q K) k (y9.1.2,(bs,()))))=some (nd B32 (Nat.gcd (a0c B32 as) (a0c B32 bs)),()):=by
    unfold S.a5d;dsimp only;rw[if_pos ⟨ca,cb,hb,la,lb⟩,Option.bind_some];dsimp only;have hl:(nd B32 (a0c B32 as%a0c B32 bs)).length<=bs.length:=by
     have:=f4f a0d (Nat.le_of_lt hm);rwa [a1l cb]at this
    have hd:a0c B32 (nd B32 (a0c B32 as%a0c B32 bs))=a0c B32 as%a0c B32 bs:=a0i a0d _;rw[ih (a0c B32 as%a0c B32 bs) (by omega) bs _ k cb (a0j a0d _) lb (by omega) (by rw[hd];exact Nat.le_refl _) (by omega) (by omega),hd,d8t]
   by_cases c1:as.length<=2
   ·by_cases c2:bs.length<=2
    ·have s1:=hsmall as (a1o ca) c1;have s2:=hsmall bs (a1o cb) c2;simp only[c1,c2,decide_true,if_true];exact g4e n _ _ K hn hK s1 s2
    ·rw[if_pos (decide_eq_true c1),if_neg (by simpa using c2)];exact hbig
   ·rw[if_neg (by simpa using c1)];exact hbig
def S.a6b (x:((List Int)×((List Int)×Unit))):(Option ((List Int)×Unit)):=if a2y B32 x.1=true/\a2y B32 x.2.1=true/\x.1.length<=100000000/\x.2.1.length<=100000000 then some (nd B32 (Nat.gcd (a0c B32 x.1) (a0c B32 x.2.1)),())else none
theorem S.e4c (x r) (h:S.a6b x=some r):∃k,P.d1m k x=some r:=by
 obtain⟨as,bs,u⟩:=x;unfold S.a6b at h;dsimp only at h;split at h
 case isFalse=>cases h
 rename_i hc;obtain⟨ca,cb,la,lb⟩:=hc;cases h;refine⟨a0c B32 bs+1,?_⟩;unfold P.d1m;exact ig_loop _ (a0c B32 bs) as bs _ ca cb la lb (Nat.le_refl _) (by omega) (by omega)
def P.d9k (k:Nat) (x:Bool×List Int×List Int×Unit):Option (RB×Unit):=
 if(x.2.1.length:Int)==0 then(S.a3h (1,())).bind fun y0=>some ((false,[],y0.1),())else(S.a6b (x.2.1,x.2.2.1,())).bind fun y1=>if(y1.1.length:Int)==1 then if decide (0<(y1.1.length:Int))then if(y1.1.getD 0 0)==1 then some ((x.1,x.2.1,x.2.2.1),())else(S.a5d (x.2.1,y1.1,())).bind fun y2=>(S.a5d (x.2.2.1,y1.1,())).bind fun y3=>some ((x.1,y2.1.1,y3.1.1),())else none else(S.a5d (x.2.1,y1.1,())).bind fun y4=>(S.a5d (x.2.2.1,y1.1,())).bind fun y5=>some ((x.1,y4.1.1,y5.1.1),())
def S.a5t (x:(Bool×((List Int)×((List Int)×Unit)))):(Option (RB×Unit)):=if a2y B32 x.2.1=true/\a2y B32 x.2.2.1=true/\x.2.2.1≠ []/\x.2.1.length<=100000000/\x.2.2.1.length<=100000000 then some (rp B32 (c0s x.1 (a0c B32 x.2.1) (a0c B32 x.2.2.1)),())else none
theorem S.e8t (x r) (h:S.a5t x=some r):∃k,P.d9k k x=some r:=by
 obtain⟨neg,as,bs',u⟩:=x;unfold S.a5t at h;dsimp only at h;split at h
 case isFalse=>cases h
 rename_i hc;obtain⟨ca,cb,hne,la,lb⟩:=hc;cases h;refine⟨0,?_⟩;unfold P.d9k;dsimp only;have hb0:a0c B32 bs'≠0:=fun e=>hne ((a9o a0d cb).2 e)
 by_cases ha:as=[]
 ·subst ha;rw[if_pos (by rfl)];unfold S.a3h c0s rp;dsimp only;rw[if_pos ⟨by decide,by decide⟩,Option.bind_some,show a0c B32 []=0 from rfl,Nat.gcd_zero_left,Nat.zero_div,Nat.div_self (by omega),a1t a0d];simp
 ·have ha0:a0c B32 as≠0:=fun e=>ha ((a9o a0d ca).2 e)
  rw[if_neg (by simpa using ha)];have hg:=f7h a0d ca cb hb0;have hgp:0<Nat.gcd (a0c B32 as) (a0c B32 bs'):=Nat.gcd_pos_of_pos_right _ (by omega);have e1:S.a6b (as,(bs',()))=some (nd B32 (Nat.gcd (a0c B32 as) (a0c B32 bs')),()):=by
   unfold S.a6b;exact if_pos ⟨ca,cb,la,lb⟩
  rw[e1,Option.bind_some];dsimp only;unfold c0s rp;dsimp only;rw[decide_eq_true ha0,Bool.and_true];have hgne:nd B32 (Nat.gcd (a0c B32 as) (a0c B32 bs'))≠ []:=by
   rw[b4g a0d (by omega)];simp
  have hgd:a0c B32 (nd B32 (Nat.gcd (a0c B32 as) (a0c B32 bs')))=Nat.gcd (a0c B32 as) (a0c B32 bs'):=a0i a0d _;have hgc:a2y B32 (nd B32 (Nat.gcd (a0c B32 as) (a0c B32 bs')))=true:=a0j a0d _;have e2:∀xs,a2y B32 xs=true->xs.length<=100000000->S.a5d (xs,(nd B32 (Nat.gcd (a0c B32 as) (a0c B32 bs')),()))=some ((nd B32 (a0c B32 xs/Nat.gcd (a0c B32 as) (a0c B32 bs')),nd B32 (a0c B32 xs%Nat.gcd (a0c B32 as) (a0c B32 bs'))),()):=by
   intro xs cx lx;unfold S.a5d;dsimp only;rw[if_pos ⟨cx,hgc,hgne,lx,by omega⟩,hgd]
  rw[e2 as ca la,Option.bind_some,e2 bs' cb lb,Option.bind_some];dsimp only;have hone:nd B32 (Nat.gcd (a0c B32 as) (a0c B32 bs'))=[1]->as=nd B32 (a0c B32 as/Nat.gcd (a0c B32 as) (a0c B32 bs'))/\bs'=nd B32 (a0c B32 bs'/Nat.gcd (a0c B32 as) (a0c B32 bs')):=by
   intro e;rw[e,b7p]at hgd;rw[<-hgd,Nat.div_one,Nat.div_one,a1l ca,a1l cb];exact⟨rfl,rfl⟩
  generalize hgl:nd B32 (Nat.gcd (a0c B32 as) (a0c B32 bs'))=gl at*
  by_cases h1:gl.length=1
  ·have d1:(((gl.length:Nat):Int)==(1:Int))=true:=by simp [h1]
   have d2:(0:Int)<(gl.length:Int):=by omega
   rw[if_pos d1,if_pos (decide_eq_true d2)];obtain⟨g0,rfl⟩:∃g0,gl=[g0]:=by
    match gl,h1 with
    | [g0],_=>exact⟨g0,rfl⟩
   by_cases h2:g0=1
   ·subst h2;rw[if_pos (by rfl),<-(hone rfl).1,<-(hone rfl).2]
   ·rw[if_neg (by simpa using h2)]
  ·have d1:¬(((gl.length:Nat):Int)==(1:Int))=true:=by simp;omega
   rw[if_neg d1]
def P.c6m (k:Nat) (x:RB×Unit):Option (Int×Unit):=
 if(x.1.2.1.length:Int)==0 then some (0,())else if x.1.1 then some ((-1:Int),())else some (1,())
def S.a0r (x:(RB×Unit)):(Option (Int×Unit)):=if a2y B32 x.1.2.1=true then some (d4s x.1.1 (a0c B32 x.1.2.1),())else none
theorem S.d9l (x r) (h:S.a0r x=some r):∃k,P.c6m k x=some r:=by
 obtain⟨⟨n,as,bs⟩,u⟩:=x;unfold S.a0r at h;dsimp only at h;split at h
 case isFalse=>cases h
 rename_i ca;cases h;refine⟨0,?_⟩;unfold P.c6m d4s;dsimp only;have h:=a9o a0d ca
 by_cases h0:as=[]
 ·rw[if_pos (h.1 h0),h0,if_pos (by rfl)]
 ·rw[if_neg (fun q=>h0 (h.2 q)),if_neg (by simpa using h0)];cases n<;>rfl
end Go.Cm
end
