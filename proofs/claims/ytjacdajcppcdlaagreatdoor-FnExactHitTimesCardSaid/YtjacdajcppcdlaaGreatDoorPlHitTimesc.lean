import Derived.Test.YtjacdajcppcdlaaGreatDoorPlHitTimesb
set_option linter.unusedVariables false
set_option maxRecDepth 100000
noncomputable section
namespace Go.Cm
open IntKind (wrap)
abbrev s_l03Solve.A:=Option ((List RB×Bool)×List (List RB×Nat)×Unit)
abbrev s_l03Solve.B:=Int×Int×Int×List (List RB×Nat)×Unit
abbrev s_l03Solve.C:=Int×Int×List (List RB×Nat)×Unit
abbrev P.s_l03Solve_b22 (g16:s_l03Solve.B->s_l03Solve.A) (x23:Int×Int×List (List RB×Nat)×Int×RB×Int×Unit) (g24:Int×Int×List (List RB×Nat)×Int×RB×Int×Unit->s_l03Solve.A):s_l03Solve.A:=
 (fun(a b d f:Int) (c:List (List RB×Nat)) (e:RB)=>if decide (a<=b)then if decide (0<=d)then if decide (d<(List.length (hd0 c):Int))then if decide (0<=d)then if decide (d<(List.length (hd0 c):Int))then if decide (0<=a)then if decide (a<(((List.getD (hd0 c) (0+d.toNat) (0,0)).2:Nat):Int))then if decide (0<=f)then if decide (f<(List.length (hd0 c):Int))then if decide (0<=a)then if decide (a<(((List.getD (hd0 c) (0+f.toNat) (0,0)).2:Nat):Int))then(S.s_l01Times ((e.1,e.2.1,e.2.2),((List.getD (List.getD (in0 c) (List.getD (hd0 c) (0+f.toNat) (0,0)).1 []) (0+a.toNat) (false,[],[])).1,(List.getD (List.getD (in0 c) (List.getD (hd0 c) (0+f.toNat) (0,0)).1 []) (0+a.toNat) (false,[],[])).2.1,(List.getD (List.getD (in0 c) (List.getD (hd0 c) (0+f.toNat) (0,0)).1 []) (0+a.toNat) (false,[],[])).2.2),())).bind fun y25=>(S.s_l01Minus (((List.getD (List.getD (in0 c) (List.getD (hd0 c) (0+d.toNat) (0,0)).1 []) (0+a.toNat) (false,[],[])).1,(List.getD (List.getD (in0 c) (List.getD (hd0 c) (0+d.toNat) (0,0)).1 []) (0+a.toNat) (false,[],[])).2.1,(List.getD (List.getD (in0 c) (List.getD (hd0 c) (0+d.toNat) (0,0)).1 []) (0+a.toNat) (false,[],[])).2.2),(y25.1.1,y25.1.2.1,y25.1.2.2),())).bind fun y26=>if decide (0<=a)then if decide (a<(((List.getD (hd0 c) (0+d.toNat) (0,0)).2:Nat):Int))then if dup (List.map (fun(y27:Nat×Nat)=>y27.1) (hd0 c))then none else g24 (wrap .i64 (a+1),b,nrm (hd0 c) (List.set (in0 c) (List.getD (hd0 c) (0+d.toNat) (0,0)).1 (List.set (List.getD (in0 c) (List.getD (hd0 c) (0+d.toNat) (0,0)).1 []) (0+a.toNat) (y26.1.1,y26.1.2.1,y26.1.2.2))),d,(e.1,e.2.1,e.2.2),f,())else none else none else none else none else none else none else none else none else none else none else none else none else if dup (List.map (fun(y28:Nat×Nat)=>y28.1) (hd0 c))then none else g16 (wrap .i64 (d+1),b,f,nrm (hd0 c) (in0 c),())) x23.1 x23.2.1 x23.2.2.2.1 x23.2.2.2.2.2.1 x23.2.2.1 x23.2.2.2.2.1
abbrev P.a4d (k:Nat) (g3:s_l03Solve.C->s_l03Solve.A) (x15:s_l03Solve.B) (g16:s_l03Solve.B->s_l03Solve.A):s_l03Solve.A:=
 (fun(a b c:Int) (d:List (List RB×Nat))=>if decide (a<b)then if a==c then if dup (List.map (fun(y17:Nat×Nat)=>y17.1) (hd0 d))then none else g16 (wrap .i64 (a+1),b,c,nrm (hd0 d) (in0 d),())else if decide (0<=a)then if decide (a<(List.length (hd0 d):Int))then if decide (0<=c)then if decide (c<(((List.getD (hd0 d) (0+a.toNat) (0,0)).2:Nat):Int))then(S.s_l01Zero (((List.getD (List.getD (in0 d) (List.getD (hd0 d) (0+a.toNat) (0,0)).1 []) (0+c.toNat) (false,[],[])).1,(List.getD (List.getD (in0 d) (List.getD (hd0 d) (0+a.toNat) (0,0)).1 []) (0+c.toNat) (false,[],[])).2.1,(List.getD (List.getD (in0 d) (List.getD (hd0 d) (0+a.toNat) (0,0)).1 []) (0+c.toNat) (false,[],[])).2.2),())).bind fun y18=>if y18.1 then if dup (List.map (fun(y19:Nat×Nat)=>y19.1) (hd0 d))then none else g16 (wrap .i64 (a+1),b,c,nrm (hd0 d) (in0 d),())else if decide (0<=a)then if decide (a<(List.length (hd0 d):Int))then if decide (0<=c)then if decide (c<(((List.getD (hd0 d) (0+a.toNat) (0,0)).2:Nat):Int))then if decide (0<=c)then if decide (c<(List.length (hd0 d):Int))then if decide (0<=c)then if decide (c<(((List.getD (hd0 d) (0+c.toNat) (0,0)).2:Nat):Int))then(S.s_l01Over (((List.getD (List.getD (in0 d) (List.getD (hd0 d) (0+a.toNat) (0,0)).1 []) (0+c.toNat) (false,[],[])).1,(List.getD (List.getD (in0 d) (List.getD (hd0 d) (0+a.toNat) (0,0)).1 []) (0+c.toNat) (false,[],[])).2.1,(List.getD (List.getD (in0 d) (List.getD (hd0 d) (0+a.toNat) (0,0)).1 []) (0+c.toNat) (false,[],[])).2.2),((List.getD (List.getD (in0 d) (List.getD (hd0 d) (0+c.toNat) (0,0)).1 []) (0+c.toNat) (false,[],[])).1,(List.getD (List.getD (in0 d) (List.getD (hd0 d) (0+c.toNat) (0,0)).1 []) (0+c.toNat) (false,[],[])).2.1,(List.getD (List.getD (in0 d) (List.getD (hd0 d) (0+c.toNat) (0,0)).1 []) (0+c.toNat) (false,[],[])).2.2),())).bind fun y20=>if dup (List.map (fun(y21:Nat×Nat)=>y21.1) (hd0 d))then none else loopP (P.s_l03Solve_b22 g16) k (c,b,nrm (hd0 d) (in0 d),a,(y20.1.1,y20.1.2.1,y20.1.2.2),c,())else none else none else none else none else none else none else none else none else none else none else none else none else if dup (List.map (fun(y29:Nat×Nat)=>y29.1) (hd0 d))then none else g3 (wrap .i64 (c+1),b,nrm (hd0 d) (in0 d),())) x15.1 x15.2.1 x15.2.2.1 x15.2.2.2.1
abbrev P.s_l03Solve_b5 (k:Nat) (g3:s_l03Solve.C->s_l03Solve.A) (x6:Int×Int×List (List RB×Nat)×Int×Unit) (g7:Int×Int×List (List RB×Nat)×Int×Unit->s_l03Solve.A):s_l03Solve.A:=
 (fun(a b d:Int) (c:List (List RB×Nat))=>if decide (a<b)then if decide (0<=a)then if decide (a<(List.length (hd0 c):Int))then if decide (0<=d)then if decide (d<(((List.getD (hd0 c) (0+a.toNat) (0,0)).2:Nat):Int))then(S.s_l01Zero (((List.getD (List.getD (in0 c) (List.getD (hd0 c) (0+a.toNat) (0,0)).1 []) (0+d.toNat) (false,[],[])).1,(List.getD (List.getD (in0 c) (List.getD (hd0 c) (0+a.toNat) (0,0)).1 []) (0+d.toNat) (false,[],[])).2.1,(List.getD (List.getD (in0 c) (List.getD (hd0 c) (0+a.toNat) (0,0)).1 []) (0+d.toNat) (false,[],[])).2.2),())).bind fun y8=>if y8.1 then if dup (List.map (fun(y9:Nat×Nat)=>y9.1) (hd0 c))then none else g7 (wrap .i64 (a+1),b,nrm (hd0 c) (in0 c),d,())else if a==b then if dup (List.map (fun(y10:Nat×Nat)=>y10.1) (hd0 c))then none else some (([],false),nrm (hd0 c) (in0 c),())else if dup (List.map (fun(y11:Nat×Nat)=>y11.1) (hd0 c))then none else(S.s_l03Swap (nrm (hd0 c) (in0 c),d,a,())).bind fun y12=>if dup (List.map (fun(y13:Nat×Nat)=>y13.1) (hd0 y12.2.1))then none else loopP (P.a4d k g3) k (0,b,d,nrm (hd0 y12.2.1) (in0 y12.2.1),())else none else none else none else none else if a==b then if dup (List.map (fun(y30:Nat×Nat)=>y30.1) (hd0 c))then none else some (([],false),nrm (hd0 c) (in0 c),())else if dup (List.map (fun(y31:Nat×Nat)=>y31.1) (hd0 c))then none else(S.s_l03Swap (nrm (hd0 c) (in0 c),d,a,())).bind fun y32=>if dup (List.map (fun(y33:Nat×Nat)=>y33.1) (hd0 y32.2.1))then none else loopP (P.a4d k g3) k (0,b,d,nrm (hd0 y32.2.1) (in0 y32.2.1),())) x6.1 x6.2.1 x6.2.2.2.1 x6.2.2.1
abbrev P.s_l03Solve_b51 (x52:Int×Int×List RB×List (List RB×Nat)×Unit) (g53:Int×Int×List RB×List (List RB×Nat)×Unit->s_l03Solve.A):s_l03Solve.A:=
 (fun(a b:Int) (c:List RB) (d:List (List RB×Nat))=>if decide (a<b)then if decide (0<=a)then if decide (a<(List.length (hd0 d):Int))then if decide (0<=b)then if decide (b<(((List.getD (hd0 d) (0+a.toNat) (0,0)).2:Nat):Int))then if decide (0<=a)then if decide (a<(List.length (hd0 d):Int))then if decide (0<=a)then if decide (a<(((List.getD (hd0 d) (0+a.toNat) (0,0)).2:Nat):Int))then(S.s_l01Over (((List.getD (List.getD (in0 d) (List.getD (hd0 d) (0+a.toNat) (0,0)).1 []) (0+b.toNat) (false,[],[])).1,(List.getD (List.getD (in0 d) (List.getD (hd0 d) (0+a.toNat) (0,0)).1 []) (0+b.toNat) (false,[],[])).2.1,(List.getD (List.getD (in0 d) (List.getD (hd0 d) (0+a.toNat) (0,0)).1 []) (0+b.toNat) (false,[],[])).2.2),((List.getD (List.getD (in0 d) (List.getD (hd0 d) (0+a.toNat) (0,0)).1 []) (0+a.toNat) (false,[],[])).1,(List.getD (List.getD (in0 d) (List.getD (hd0 d) (0+a.toNat) (0,0)).1 []) (0+a.toNat) (false,[],[])).2.1,(List.getD (List.getD (in0 d) (List.getD (hd0 d) (0+a.toNat) (0,0)).1 []) (0+a.toNat) (false,[],[])).2.2),())).bind fun y54=>if decide (((c.length+(List.length [(y54.1.1,y54.1.2.1,y54.1.2.2)]))*56)<=140737488355328)then if dup (List.map (fun(y55:Nat×Nat)=>y55.1) (hd0 d))then none else g53 (wrap .i64 (a+1),b,c++[(y54.1.1,y54.1.2.1,y54.1.2.2)],nrm (hd0 d) (in0 d),())else none else none else none else none else none else none else none else none else none else if dup (List.map (fun(y56:Nat×Nat)=>y56.1) (hd0 d))then none else some ((c,true),nrm (hd0 d) (in0 d),())) x52.1 x52.2.1 x52.2.2.1 x52.2.2.2.1
abbrev P.s_l03Solve_b1 (k:Nat) (x2:s_l03Solve.C) (g3:s_l03Solve.C->s_l03Solve.A):s_l03Solve.A:=
 if decide (x2.1<x2.2.1)then if dup (List.map (fun(y4:Nat×Nat)=>y4.1) (hd0 x2.2.2.1))then none else loopP (P.s_l03Solve_b5 k g3) k (x2.1,x2.2.1,nrm (hd0 x2.2.2.1) (in0 x2.2.2.1),x2.1,())else if dup (List.map (fun(y50:Nat×Nat)=>y50.1) (hd0 x2.2.2.1))then none else loopP P.s_l03Solve_b51 k (0,x2.2.1,[],nrm (hd0 x2.2.2.1) (in0 x2.2.2.1),())
def P.s_l03Solve (k:Nat) (x:List (List RB×Nat)×Unit):s_l03Solve.A:=
 if dup (List.map (fun(y0:Nat×Nat)=>y0.1) (hd0 x.1))then none else loopP (P.s_l03Solve_b1 k) k (0,(List.length (hd0 x.1):Int),nrm (hd0 x.1) (in0 x.1),())
theorem sv_mul {a b:Q3} (ha:okq a) (hb:okq b):S.s_l01Times (((rp B10 a).1,(rp B10 a).2.1,(rp B10 a).2.2),((rp B10 b).1,(rp B10 b).2.1,(rp B10 b).2.2),())=some (rp B10 (mulQ a b),()):=rs_mul ha.1 ha.2 hb.1 hb.2 (Nat.le_refl _) (Nat.le_refl _)
theorem sv_sub {a b:Q3} (ha:okq a) (hb:okq b):S.s_l01Minus (((rp B10 a).1,(rp B10 a).2.1,(rp B10 a).2.2),((rp B10 b).1,(rp B10 b).2.1,(rp B10 b).2.2),())=some (rp B10 (addQ a (oppQ b)),()):=rs_sub ha.1 ha.2 hb.1 hb.2 (Nat.le_refl _) (Nat.le_refl _)
theorem sv_over {a b:Q3} (ha:okq a) (hb:okq b) (h0:b.2.1≠0):S.s_l01Over (((rp B10 a).1,(rp B10 a).2.1,(rp B10 a).2.2),((rp B10 b).1,(rp B10 b).2.1,(rp B10 b).2.2),())=some (rp B10 (overQ a b),()):=rs_over ha.1 ha.2 hb.1 hb.2 h0 (Nat.le_refl _) (Nat.le_refl _)
theorem sv_zero (q:Q3):S.s_l01Zero (((rp B10 q).1,(rp B10 q).2.1,(rp B10 q).2.2),())=some (decide (q.2.1=0),()):=by
 unfold S.s_l01Zero P.s_l01Zero rp;dsimp only;congr 2;rw[Bool.eq_iff_iff,beq_iff_eq,decide_eq_true_iff,<-nd_zero_iff (B:=B10) (by decide),<-List.length_eq_zero_iff];omega
def svM (b:Nat->Nat->Q3) (k r j:Nat):Nat->Nat->Q3:=fun x y=>if x<r\/(x=r/\y<j)then elF true b k x y else b x y
theorem svM_row (b:Nat->Nat->Q3) (k r:Nat) (h:r=k\/(b r k).2.1=0):svM b k r 0=svM b k (r+1) 0:=by
 funext x y;unfold svM
 by_cases w:x<r
 ·rw[if_pos (Or.inl w),if_pos (Or.inl (by omega))]
 ·by_cases w2:x=r
  ·subst w2;rw[if_neg (by omega),if_pos (Or.inl (by omega))];unfold elF;rw[if_neg (fun q=>by
    rcases h with h|h
    ·rcases q.1 with q|q
     ·omega
     ·exact q.2 h
    ·exact q.2.1 h)]
  ·rw[if_neg (by omega),if_neg (by omega)]
theorem svM_wide (b:Nat->Nat->Q3) {n k r:Nat} :om B10 n (n+1) (svM b k r (n+1))=om B10 n (n+1) (svM b k (r+1) 0):=om_congr fun x hx y hy=>by
 unfold svM
 by_cases w:x<r\/(x=r/\y<n+1)
 ·rw[if_pos w,if_pos (by omega)]
 ·rw[if_neg w,if_neg (by omega)]
theorem sv_inner {b:Nat->Nat->Q3} {n k:Nat} (h:elOk b n k) {r:Nat} (hr:r<n) (hrk:r≠k) (hf:(b r k).2.1≠0) (g) {K:Nat} (hK:13<K):
  loopP (P.s_l03Solve_b22 g) K ((k:Int),(n:Int),om B10 n (n+1) (svM b k r 0),(r:Int),rp B10 (overQ (b r k) (b k k)),(k:Int),())=g (((r+1:Nat):Int),(n:Int),(k:Int),om B10 n (n+1) (svM b k (r+1) 0),()):=by
 obtain⟨kn,n12,hnum,hp,hF,hM⟩:=h;have hstart:svM b k r 0=svM b k r k:=by
  funext x y;unfold svM
  by_cases w:x<r
  ·rw[if_pos (Or.inl w),if_pos (Or.inl w)]
  ·rw[if_neg (by omega)]
   by_cases w2:x=r/\y<k
   ·rw[if_pos (Or.inr w2)];unfold elF;rw[if_neg (fun q=>by omega)]
   ·rw[if_neg (fun q=>q.elim w w2)]
 rw[hstart]
 have key:=loop_from (k:=K) (b:=P.s_l03Solve_b22 g) (s:=k) (n:=n+1) (st:=fun j=>((j:Int),(n:Int),om B10 n (n+1) (svM b k r j),(r:Int),rp B10 (overQ (b r k) (b k k)),(k:Int),())) (F:=fun _=>g (((r+1:Nat):Int),(n:Int),(k:Int),om B10 n (n+1) (svM b k (r+1) 0),())) (by omega) (fun j g' hkj hj hg=>by
  unfold P.s_l03Solve_b22;dsimp only at hg ⊢;have e1:(j:Int)<=(n:Int):=by omega
  have e2:(0:Int)<=(j:Int):=by omega
  have e3:(0:Int)<=(r:Int):=by omega
  have e4:(r:Int)<(n:Int):=by omega
  have e5:(0:Int)<=(k:Int):=by omega
  have e6:(k:Int)<(n:Int):=by omega
  have e7:(j:Int)<((n+1:Nat):Int):=by omega
  have v2:svM b k r j k j=b k j:=by
   unfold svM
   by_cases w:k<r\/(k=r/\j<j)
   ·rw[if_pos w];unfold elF;rw[if_neg (fun q=>by
     rcases q.1 with q|q
     ·omega
     ·exact q.2 rfl)]
   ·rw[if_neg w]
  have v3:svM b k r j r j=b r j:=by
   unfold svM;rw[if_neg (by omega)]
  have v5:updM (svM b k r j) r j (addQ (b r j) (oppQ (mulQ (overQ (b r k) (b k k)) (b k j))))=svM b k r (j+1):=by
   funext x y;unfold updM
   by_cases q:x=r/\y=j
   ·rw[if_pos q,q.1,q.2];unfold svM;rw[if_pos (Or.inr ⟨rfl,by omega⟩)];unfold elF;rw[if_pos ⟨Or.inr ⟨rfl,hrk⟩,hf,hkj⟩];rfl
   ·rw[if_neg q];unfold svM
    by_cases w:x<r\/(x=r/\y<j)
    ·rw[if_pos w,if_pos (by omega)]
    ·rw[if_neg w,if_neg (by omega)]
  simp only[a0q,a4b,Int.toNat_natCast,Nat.zero_add,om_hd hr,om_hd kn,om_in hr,om_in kn,a5l (show j<n+1 by omega),a1b,e1,e2,e3,e4,e5,e6,e7,decide_true,if_true,Bool.false_eq_true,if_false,v2,v3];rw[sv_mul (hF r hr) (hnum k kn j (by omega)),Option.bind_some];dsimp only;rw[sv_sub (hnum r hr j (by omega)) (hM r hr j (by omega)),Option.bind_some];dsimp only;rw[wr (by omega) (by omega)];show g' (_,_,nrm (hd0 _) ((in0 _).set r (((tab (n+1) (svM b k r j r)).map (rp B10)).set j (rp B10 _))),_)=_;rw[om_write hr,v5];exact hg) (fun g'=>by
  unfold P.s_l03Solve_b22;dsimp only;rw[if_neg (by simp;omega),a1b,a1q,wr (by omega) (by omega),if_neg (by decide),svM_wide];rfl) (by omega)
 exact key
theorem sv_rows {b:Nat->Nat->Q3} {n k:Nat} (h:elOk b n k) (g) {K:Nat} (hK:13<K):
  loopP (P.a4d K g) K ((0:Int),(n:Int),(k:Int),om B10 n (n+1) b,())=g (((k+1:Nat):Int),(n:Int),om B10 n (n+1) (elF true b k),()):=by
 have h':=h;obtain⟨kn,n12,hnum,hp,hF,hM⟩:=h;have hstart:svM b k 0 0=b:=by
  funext x y;unfold svM;rw[if_neg (by omega)]
 have key:=a0g (k:=K) (b:=P.a4d K g) (n:=n) (st:=fun r=>((r:Int),(n:Int),(k:Int),om B10 n (n+1) (svM b k r 0),())) (F:=fun _=>g (((k+1:Nat):Int),(n:Int),om B10 n (n+1) (elF true b k),())) (fun r g' hr hg=>by
  unfold P.a4d;dsimp only at hg ⊢;have e1:(r:Int)<(n:Int):=by omega
  have e3:(0:Int)<=(r:Int):=by omega
  have e5:(0:Int)<=(k:Int):=by omega
  have e6:(k:Int)<(n:Int):=by omega
  have e7:(k:Int)<((n+1:Nat):Int):=by omega
  rw[if_pos (decide_eq_true e1)]
  by_cases hrk:r=k
  ·rw[if_pos (by rw[beq_iff_eq];omega),a1b,a1q,if_neg (by decide),wr (by omega) (by omega),<-hg,<-svM_row b k r (Or.inl hrk)];rfl
  rw[if_neg (by rw[beq_iff_eq];omega)];have v1:svM b k r 0 r k=b r k:=by
   unfold svM;rw[if_neg (by omega)]
  have v2:svM b k r 0 k k=b k k:=by
   unfold svM
   by_cases w:k<r\/(k=r/\k<0)
   ·rw[if_pos w];unfold elF;rw[if_neg (fun q=>by
     rcases q.1 with q|q
     ·omega
     ·exact q.2 rfl)]
   ·rw[if_neg w]
  simp only[a0q,a4b,Int.toNat_natCast,Nat.zero_add,om_hd hr,om_hd kn,om_in hr,om_in kn,a5l (show k<n+1 by omega),a1b,a1q,e1,e3,e5,e6,e7,decide_true,if_true,Bool.false_eq_true,if_false,v1,v2];rw[sv_zero,Option.bind_some]
  by_cases hz:(b r k).2.1=0
  ·rw[if_pos (decide_eq_true hz),wr (by omega) (by omega),<-hg,<-svM_row b k r (Or.inr hz)];rfl
  ·rw[if_neg (by simpa using hz),sv_over (hnum r hr k (by omega)) (hnum k kn k (by omega)) hp,Option.bind_some];dsimp only;rw[<-hg];exact sv_inner h' hr hrk hz g' hK) (fun g'=>by
  unfold P.a4d;dsimp only;rw[if_neg (by simp),a1b,a1q,if_neg (by decide),wr (by omega) (by omega)];have:om B10 n (n+1) (svM b k n 0)=om B10 n (n+1) (elF true b k):=om_congr fun x hx y hy=>by
   unfold svM;rw[if_pos (Or.inl hx)]
  rw[this];rfl) (by omega)
 rw[hstart]at key;exact key
theorem sv_swap {a:Nat->Nat->Q3} {r c i k:Nat} (hi:i<r) (hk:k<r):S.s_l03Swap (om B10 r c a,(i:Int),(k:Int),())=some ((),om B10 r c (swQ a i k),()):=by
 unfold S.s_l03Swap P.s_l03Swap;dsimp only;have e1:(0:Int)<=(i:Int):=by omega
 have e2:(i:Int)<(r:Int):=by omega
 have e3:(0:Int)<=(k:Int):=by omega
 have e4:(k:Int)<(r:Int):=by omega
 have hs:=om_swap (B:=B10) (c:=c) (a:=a) hi hk;have hp:∀p:Nat×Nat,(p.1,p.2)=p:=fun p=>rfl
 simp only[hp,a0q,a4b,List.length_set,Int.toNat_natCast,Nat.zero_add,hs,sw_dup,sw_nrm hi hk,e1,e2,e3,e4,decide_true,if_true,Bool.false_eq_true,if_false]
theorem sv_search {a:Nat->Nat->Q3} {n k:Nat} (hk:k<n) (n12:n<=12) (g) {K:Nat} :∀(m i F:Nat),i+m=n->m<F->pvF (fun i=>decide ((a i k).2.1≠0)) m i<n->
  loopP (P.s_l03Solve_b5 K g) F ((i:Int),(n:Int),om B10 n (n+1) a,(k:Int),())=loopP (P.a4d K g) K ((0:Int),(n:Int),(k:Int),om B10 n (n+1) (swQ a k (pvF (fun i=>decide ((a i k).2.1≠0)) m i)),()):=by
 intro m
 induction m with
 |zero=>
  intro i F hi hF hp;unfold pvF at hp;omega
 |succ m ih=>
  intro i F hi hF hp;obtain⟨F,rfl⟩:∃j,F=j+1:=⟨F - 1,by omega⟩
  rw[a0k];have ih':=ih (i+1) F (by omega) (by omega);generalize loopP (P.s_l03Solve_b5 K g) F=g' at ih' ⊢;unfold P.s_l03Solve_b5;dsimp only;have hin:i<n:=by omega
  have e1:(i:Int)<(n:Int):=by omega
  have e2:(0:Int)<=(i:Int):=by omega
  have e3:(0:Int)<=(k:Int):=by omega
  have e4:(k:Int)<((n+1:Nat):Int):=by omega
  simp only[a0q,a4b,Int.toNat_natCast,Nat.zero_add,om_hd hin,om_in hin,a5l (show k<n+1 by omega),a1b,a1q,e1,e2,e3,e4,decide_true,if_true,Bool.false_eq_true,if_false];rw[sv_zero,Option.bind_some];unfold pvF at hp ⊢
  by_cases hz:(a i k).2.1=0
  ·have hd:¬(decide ((a i k).2.1≠0)=true):=by simp [hz]
   rw[if_neg hd]at hp ⊢;rw[if_pos (decide_eq_true hz),wr (by omega) (by omega)];exact ih' hp
  ·have hd:decide ((a i k).2.1≠0)=true:=decide_eq_true hz;rw[if_pos hd]at hp ⊢;rw[if_neg (by simpa using hz),if_neg (by rw[beq_iff_eq];omega),sv_swap hk hin,Option.bind_some]
open Classical in
def S.s_l03Solve (x:((List ((List RB)×Nat))×Unit)):(Option (((List RB)×Bool)×((List ((List RB)×Nat))×Unit))):=
 if h:∃(a:Nat->Nat->Q3) (n:Nat),x.1=om B10 n (n+1) a/\elsOk true a n then some (((tab h.choose_spec.choose (solS h.choose h.choose_spec.choose)).map (rp B10),true),om B10 h.choose_spec.choose (h.choose_spec.choose+1) (elim true h.choose_spec.choose h.choose h.choose_spec.choose),())else none
theorem S.s_l03Solve_ok (x r) (h:S.s_l03Solve x=some r):∃k,P.s_l03Solve k x=some r:=by
 obtain⟨m,u⟩:=x;unfold S.s_l03Solve at h;dsimp only at h;split at h
 case isFalse=>cases h
 rename_i hc;have hs:=hc.choose_spec.choose_spec;cases h;generalize hc.choose_spec.choose=n at*;generalize hc.choose=a at*;obtain⟨rfl,hr⟩:=hs;obtain⟨n12,hnum,hpiv,hel,hdia⟩:=hr;refine⟨14,?_⟩;unfold P.s_l03Solve;dsimp only;rw[a1b,a1q,a0q,a4b,if_neg (by decide)];have key:=a0g (k:=14) (b:=P.s_l03Solve_b1 14) (n:=n) (st:=fun k=>((k:Int),(n:Int),om B10 n (n+1) (elim true n a k),())) (F:=fun _=>some (((tab n (solS a n)).map (rp B10),true),om B10 n (n+1) (elim true n a n),())) (fun k g hk hg=>by
  unfold P.s_l03Solve_b1;dsimp only at hg ⊢;rw[if_pos (decide_eq_true (by omega)),a1b,a1q,if_neg (by decide)];have hp:=(hpiv k hk).2.1;have he:=hel k hk;have hs:=sv_search (a:=elim true n a k) hk n12 g (K:=14) (n - k) k 14 (by omega) (by omega) hp;rw[elim]at hg;rw[<-hg];exact hs.trans (sv_rows he g (by decide))) (fun g=>by
  unfold P.s_l03Solve_b1;dsimp only;rw[if_neg (by simp),a1b,a1q,if_neg (by decide)];have key2:=a0g (k:=14) (b:=P.s_l03Solve_b51) (n:=n) (st:=fun i=>((i:Int),(n:Int),(tab i (solS a n)).map (rp B10),om B10 n (n+1) (elim true n a n),())) (F:=fun _=>some (((tab n (solS a n)).map (rp B10),true),om B10 n (n+1) (elim true n a n),())) (fun i g' hi hg=>by
   unfold P.s_l03Solve_b51;dsimp only at hg ⊢;have e1:(i:Int)<(n:Int):=by omega
   have e2:(0:Int)<=(i:Int):=by omega
   have e3:(0:Int)<=(n:Int):=by omega
   have e4:(n:Int)<((n+1:Nat):Int):=by omega
   have e5:(i:Int)<((n+1:Nat):Int):=by omega
   have e6:(i+1)*56<=140737488355328:=by omega
   simp only[a0q,a4b,Int.toNat_natCast,Nat.zero_add,om_hd hi,om_in hi,a5l (show n<n+1 by omega),a5l (show i<n+1 by omega),a1b,a1q,e1,e2,e3,e4,e5,decide_true,if_true,Bool.false_eq_true,if_false];rw[sv_over (hnum n (Nat.le_refl _) i hi n (Nat.le_refl _)) (hnum n (Nat.le_refl _) i hi i (by omega)) (hdia i hi),Option.bind_some];dsimp only;simp only[List.length_map,a1g,List.length_cons,List.length_nil,Nat.zero_add,e6,decide_true,if_true];rw[wr (by omega) (by omega)];rw[<-tabm_snoc]at hg;exact hg) (fun g'=>by
   unfold P.s_l03Solve_b51;dsimp only;rw[if_neg (by simp),a1b,a1q,if_neg (by decide)]) (by omega)
  exact key2) (by omega)
 exact key
theorem solve_s {a:Nat->Nat->Q3} {n:Nat} (h:elsOk true a n):S.s_l03Solve (om B10 n (n+1) a,())=some (((tab n (solS a n)).map (rp B10),true),om B10 n (n+1) (elim true n a n),()):=by
 unfold S.s_l03Solve;have hc:∃(b:Nat->Nat->Q3) (m:Nat),(om B10 n (n+1) a,()).1=om B10 m (m+1) b/\elsOk true b m:=⟨a,n,rfl,h⟩
 rw[dif_pos hc];obtain⟨e,hb⟩:=hc.choose_spec.choose_spec;dsimp only at e;generalize hc.choose_spec.choose=m at*;generalize hc.choose=b at*;obtain⟨e1,e2⟩:=om_inj a0d e;subst e1;have hab:∀i,i<n->∀j,j<=n->a i j=b i j:=fun i hi j hj=>(e2 i hi).2 j (by omega)
 have hg:=elim_congr (full:=true) hab (fun k hk=>(h.piv k hk).2.1) n (Nat.le_refl _);have hw:tab n (solS b n)=tab n (solS a n):=a0v fun i hi=>by
  unfold solS;rw[hg i hi n (Nat.le_refl _),hg i hi i (by omega)]
 rw[hw,om_congr fun i hi j hj=>hg i hi j (by omega)]
abbrev s_l03Means.A:=Int×Int×List (List RB)×Int×List Int×Int×List RB×List RB×List RB×List (List RB×Nat)×Int×Int×Unit
abbrev s_l03Means.B:=Int×Int×List Int×RB×List (List RB)×Int×List RB×List (List RB×Nat)×List RB×Int×Int×List RB×Unit
abbrev s_l03Means.C:=Int×Int×List Int×List (List RB)×List RB×List RB×List (List RB×Nat)×Unit
abbrev s_l03Means.D:=Option (List RB×Unit)
abbrev P.s_l03Means_b13 (g2:s_l03Means.C->s_l03Means.D) (x14:s_l03Means.B) (g15:s_l03Means.B->s_l03Means.D):s_l03Means.D:=
 (fun(a b f l m:Int) (c:List Int) (d:RB) (e:List (List RB)) (h j n:List RB) (i:List (List RB×Nat))=>if decide (a<b)then(S.a4l (c,a,())).bind fun y16=>if !y16.1 then if decide (0<=f)then if decide (f<(e.length:Int))then if decide (0<=a)then if decide (a<(List.length (e.getD f.toNat []):Int))then if decide (0<=a)then if decide (a<(h.length:Int))then(S.s_l01Times (((List.getD (e.getD f.toNat []) a.toNat (false,[],[])).1,(List.getD (e.getD f.toNat []) a.toNat (false,[],[])).2.1,(List.getD (e.getD f.toNat []) a.toNat (false,[],[])).2.2),((h.getD a.toNat (false,[],[])).1,(h.getD a.toNat (false,[],[])).2.1,(h.getD a.toNat (false,[],[])).2.2),())).bind fun y17=>(S.a4k ((d.1,d.2.1,d.2.2),(y17.1.1,y17.1.2.1,y17.1.2.2),())).bind fun y18=>if dup (List.map (fun(y19:Nat×Nat)=>y19.1) (hd0 i))then none else g15 (wrap .i64 (a+1),b,c,(y18.1.1,y18.1.2.1,y18.1.2.2),e,f,h,nrm (hd0 i) (in0 i),j,l,m,n,())else none else none else none else none else none else none else if dup (List.map (fun(y20:Nat×Nat)=>y20.1) (hd0 i))then none else g15 (wrap .i64 (a+1),b,c,(d.1,d.2.1,d.2.2),e,f,h,nrm (hd0 i) (in0 i),j,l,m,n,())else if decide (((j.length+(List.length [(d.1,d.2.1,d.2.2)]))*56)<=140737488355328)then if decide ((((List.length (hd0 i))+(List.length (hd0 [(j++[(d.1,d.2.1,d.2.2)],List.length (j++[(d.1,d.2.1,d.2.2)]))])))*24)<=140737488355328)then if dup (List.map (fun(y21:Nat×Nat)=>y21.1) (joinH (List.length (in0 i)) (hd0 i) (hd0 [(j++[(d.1,d.2.1,d.2.2)],List.length (j++[(d.1,d.2.1,d.2.2)]))])))then none else g2 (wrap .i64 (l+1),m,c,e,n,h,nrm (joinH (List.length (in0 i)) (hd0 i) (hd0 [(j++[(d.1,d.2.1,d.2.2)],List.length (j++[(d.1,d.2.1,d.2.2)]))])) ((in0 i)++[j++[(d.1,d.2.1,d.2.2)]]),())else none else none) x14.1 x14.2.1 x14.2.2.2.2.2.1 x14.2.2.2.2.2.2.2.2.2.1 x14.2.2.2.2.2.2.2.2.2.2.1 x14.2.2.1 x14.2.2.2.1 x14.2.2.2.2.1 x14.2.2.2.2.2.2.1 x14.2.2.2.2.2.2.2.2.1 x14.2.2.2.2.2.2.2.2.2.2.2.1 x14.2.2.2.2.2.2.2.1
abbrev P.s_l03Means_b4 (k:Nat) (g2:s_l03Means.C->s_l03Means.D) (x5:s_l03Means.A) (g6:s_l03Means.A->s_l03Means.D):s_l03Means.D:=
 (fun(a b d f m n:Int) (c:List (List RB)) (e:List Int) (h i j:List RB) (l:List (List RB×Nat))=>if decide (a<b)then if decide (0<=d)then if decide (d<(c.length:Int))then if decide (0<=a)then if decide (a<(e.length:Int))then if decide (0<=(e.getD a.toNat 0))then if decide ((e.getD a.toNat 0)<(List.length (c.getD d.toNat []):Int))then(S.a2r (((List.getD (c.getD d.toNat []) (Int.toNat (e.getD a.toNat 0)) (false,[],[])).1,(List.getD (c.getD d.toNat []) (Int.toNat (e.getD a.toNat 0)) (false,[],[])).2.1,(List.getD (c.getD d.toNat []) (Int.toNat (e.getD a.toNat 0)) (false,[],[])).2.2),())).bind fun y7=>if f==a then(S.s_l01One ()).bind fun y8=>(S.a4k ((y7.1.1,y7.1.2.1,y7.1.2.2),(y8.1.1,y8.1.2.1,y8.1.2.2),())).bind fun y9=>if decide (((h.length+(List.length [(y9.1.1,y9.1.2.1,y9.1.2.2)]))*56)<=140737488355328)then if dup (List.map (fun(y10:Nat×Nat)=>y10.1) (hd0 l))then none else g6 (wrap .i64 (a+1),b,c,d,e,f,h++[(y9.1.1,y9.1.2.1,y9.1.2.2)],i,j,nrm (hd0 l) (in0 l),m,n,())else none else if decide (((h.length+(List.length [(y7.1.1,y7.1.2.1,y7.1.2.2)]))*56)<=140737488355328)then if dup (List.map (fun(y11:Nat×Nat)=>y11.1) (hd0 l))then none else g6 (wrap .i64 (a+1),b,c,d,e,f,h++[(y7.1.1,y7.1.2.1,y7.1.2.2)],i,j,nrm (hd0 l) (in0 l),m,n,())else none else none else none else none else none else none else none else if decide (0<=d)then if decide (d<(i.length:Int))then if dup (List.map (fun(y12:Nat×Nat)=>y12.1) (hd0 l))then none else loopP (P.s_l03Means_b13 g2) k (0,(c.length:Int),e,((i.getD d.toNat (false,[],[])).1,(i.getD d.toNat (false,[],[])).2.1,(i.getD d.toNat (false,[],[])).2.2),c,d,j,nrm (hd0 l) (in0 l),h,m,n,i,())else none else none) x5.1 x5.2.1 x5.2.2.2.1 x5.2.2.2.2.2.1 x5.2.2.2.2.2.2.2.2.2.2.1 x5.2.2.2.2.2.2.2.2.2.2.2.1 x5.2.2.1 x5.2.2.2.2.1 x5.2.2.2.2.2.2.1 x5.2.2.2.2.2.2.2.1 x5.2.2.2.2.2.2.2.2.1 x5.2.2.2.2.2.2.2.2.2.1
abbrev P.s_l03Means_b24 (x25:Int×Int×List RB×List Int×List RB×Unit) (g26:Int×Int×List RB×List Int×List RB×Unit->s_l03Means.D):s_l03Means.D:=
 (fun(a b:Int) (c e:List RB) (d:List Int)=>if decide (a<b)then if decide (0<=a)then if decide (a<(d.length:Int))then if decide (0<=a)then if decide (a<(e.length:Int))then if decide (0<=(d.getD a.toNat 0))then if decide ((d.getD a.toNat 0)<(c.length:Int))then g26 (wrap .i64 (a+1),b,c.set (0+(Int.toNat (d.getD a.toNat 0))) ((e.getD a.toNat (false,[],[])).1,(e.getD a.toNat (false,[],[])).2.1,(e.getD a.toNat (false,[],[])).2.2),d,e,())else none else none else none else none else none else none else some (c,())) x25.1 x25.2.1 x25.2.2.1 x25.2.2.2.2.1 x25.2.2.2.1
abbrev P.s_l03Means_b0 (k:Nat) (x1:s_l03Means.C) (g2:s_l03Means.C->s_l03Means.D):s_l03Means.D:=
 if decide (x1.1<x1.2.1)then if decide (0<=x1.1)then if decide (x1.1<(x1.2.2.1.length:Int))then if dup (List.map (fun(y3:Nat×Nat)=>y3.1) (hd0 x1.2.2.2.2.2.2.1))then none else loopP (P.s_l03Means_b4 k g2) k (0,(x1.2.2.1.length:Int),x1.2.2.2.1,x1.2.2.1.getD x1.1.toNat 0,x1.2.2.1,x1.1,[],x1.2.2.2.2.1,x1.2.2.2.2.2.1,nrm (hd0 x1.2.2.2.2.2.2.1) (in0 x1.2.2.2.2.2.2.1),x1.1,x1.2.1,())else none else none else if dup (List.map (fun(y22:Nat×Nat)=>y22.1) (hd0 x1.2.2.2.2.2.2.1))then none else(S.s_l03Solve (nrm (hd0 x1.2.2.2.2.2.2.1) (in0 x1.2.2.2.2.2.2.1),())).bind fun y23=>if decide (((0+x1.2.2.2.2.2.1.length)*56)<=140737488355328)then loopP P.s_l03Means_b24 k (0,(x1.2.2.1.length:Int),[]++x1.2.2.2.2.2.1,x1.2.2.1,y23.1.1,())else none
def P.s_l03Means (k:Nat) (x:List (List RB)×List Int×List RB×List RB×Unit):s_l03Means.D:=
 loopP (P.s_l03Means_b0 k) k (0,(x.2.1.length:Int),x.2.1,x.1,x.2.2.1,x.2.2.2.1,nrm (hd0 ([]:List (List RB×Nat))) (in0 ([]:List (List RB×Nat))),())
theorem sme_one:S.s_l01One ()=some (rp B10 oneQ,()):=by rfl
theorem sme_has {c:Nat->Bool} {n j:Nat} (hn:n<=12) (hj:j<n):S.a4l (zs (fl c n),(j:Int),())=some (c j,()):=by
 have hl:=fl_le c n;unfold S.a4l;dsimp only;rw[if_pos (by rw[zs_len];omega)];exact congrArg (fun b=>some (b,())) (cZ_fl hj)
theorem sme_opp {a:Q3} (ha:okq a):S.a2r (((rp B10 a).1,(rp B10 a).2.1,(rp B10 a).2.2),())=some (rp B10 (oppQ a),()):=by
 have h:=(lowb_iff.1 (okq_low (B:=B10) (by decide) ha)).1;show S.a2r (rp B10 a,())=_;unfold S.a2r;dsimp only;rw[if_pos h,a3l a0d]
theorem sme_add {a b:Q3} (ha:okq a) (hb:okq b):S.a4k (((rp B10 a).1,(rp B10 a).2.1,(rp B10 a).2.2),((rp B10 b).1,(rp B10 b).2.1,(rp B10 b).2.2),())=some (rp B10 (addQ a b),()):=rs_add ha.1 ha.2 hb.1 hb.2 (Nat.le_refl _) (Nat.le_refl _)
theorem sme_mul {a b:Q3} (ha:okq a) (hb:okq b):S.s_l01Times (((rp B10 a).1,(rp B10 a).2.1,(rp B10 a).2.2),((rp B10 b).1,(rp B10 b).2.1,(rp B10 b).2.2),())=some (rp B10 (mulQ a b),()):=rs_mul ha.1 ha.2 hb.1 hb.2 (Nat.le_refl _) (Nat.le_refl _)
theorem zo_ok {f:Nat->Q3} (h:zo f) (i:Nat):okq (f i):=by
 rcases h i with q|q
 ·rw[q];exact okq_zero
 ·rw[q];exact okq_one
theorem mulz_ok {q:Q3} (hq:okq q) {f:Nat->Q3} (h:zo f) (i:Nat):okq (mulQ q (f i)):=by
 rcases h i with e|e
 ·rw[e,mul_zero hq.1];exact okq_zero
 ·rw[e,mul_one hq.1];exact hq
theorem sme_right {M:List (List Q3)} (h:isCh M) {c:Nat->Bool} {ow gv:Nat->Q3} (ho:zo ow) (hg:zo gv) {k:Nat} (hk:k<(fl c M.length).length) (g) {K:Nat} (hK:12<K):
  loopP (P.s_l03Means_b13 g) K ((0:Int),(M.length:Int),zs (fl c M.length),rp B10 (ow ((fl c M.length).getD k 0)),mp B10 M,(((fl c M.length).getD k 0:Nat):Int),(tab M.length gv).map (rp B10),om B10 k ((fl c M.length).length+1) (meA M c ow gv),(tab (fl c M.length).length (meA M c ow gv k)).map (rp B10),(k:Int),((fl c M.length).length:Int),(tab M.length ow).map (rp B10),())=g (((k+1:Nat):Int),((fl c M.length).length:Int),zs (fl c M.length),mp B10 M,(tab M.length ow).map (rp B10),(tab M.length gv).map (rp B10),om B10 (k+1) ((fl c M.length).length+1) (meA M c ow gv),()):=by
 have hI:=h.2.1;have hn:=hI.1;have hfl:=fl_le c M.length;have hi:=(fl_at hk).1;have key:=a0g (k:=K) (b:=P.s_l03Means_b13 g) (n:=M.length) (st:=fun j=>((j:Int),(M.length:Int),zs (fl c M.length),rp B10 (riQ M c ow gv ((fl c M.length).getD k 0) j),mp B10 M,(((fl c M.length).getD k 0:Nat):Int),(tab M.length gv).map (rp B10),om B10 k ((fl c M.length).length+1) (meA M c ow gv),(tab (fl c M.length).length (meA M c ow gv k)).map (rp B10),(k:Int),((fl c M.length).length:Int),(tab M.length ow).map (rp B10),())) (F:=fun _=>g (((k+1:Nat):Int),((fl c M.length).length:Int),zs (fl c M.length),mp B10 M,(tab M.length ow).map (rp B10),(tab M.length gv).map (rp B10),om B10 (k+1) ((fl c M.length).length+1) (meA M c ow gv),())) (fun j g' hj hg'=>by
  unfold P.s_l03Means_b13;dsimp only at hg' ⊢;generalize (fl c M.length).getD k 0=i at*;have e1:(j:Int)<(M.length:Int):=by omega
  have e2:(0:Int)<=(j:Int):=by omega
  have e3:(0:Int)<=(i:Int):=by omega
  have e4:(i:Int)<(M.length:Int):=by omega
  have e8:((mp B10 M).getD i []).getD j (false,(([]:List Int),([]:List Int)))=rp B10 (mq M i j):=mq_held hI hi hj;have e9:((tab M.length gv).map (rp B10)).getD j (false,(([]:List Int),([]:List Int)))=rp B10 (gv j):=a5l hj _;have hm:okq (mq M i j):=okq_200 ⟨(ch_at h hi hj).1,(ch_at h hi hj).2.1⟩;have hs:riQ M c ow gv i (j+1)=if c j=true then riQ M c ow gv i j else addQ (riQ M c ow gv i j) (mulQ (mq M i j) (gv j)):=rfl
  rw[hs]at hg';have e10:=sme_mul hm (zo_ok hg j);have e11:=sme_add (riQ_ok h (c:=c) ho hg hi (k:=j) (by omega)) (mulz_ok hm hg j);rw[if_pos (decide_eq_true e1),sme_has hn hj,Option.bind_some];dsimp only;simp only[Int.toNat_natCast,a5b,mq_wide hI hi,List.length_map,a1g,a1b,a1q,e1,e2,e3,e4,e8,e9,decide_true,if_true,Bool.false_eq_true,if_false];rw[wr (by omega) (by omega)];cases hc:c j
  ·rw[hc,if_neg (by decide)]at hg';rw[if_pos (by rfl),e10,Option.bind_some];dsimp only;rw[e11,Option.bind_some];exact hg'
  ·rw[hc,if_pos rfl]at hg';rw[if_neg (by decide)];exact hg') (fun g'=>by
  unfold P.s_l03Means_b13;dsimp only;have e1:((fl c M.length).length+1)*56<=140737488355328:=by omega
  have e3:(k+1)*24<=140737488355328:=by omega
  have e2:= @om_app B10 k ((fl c M.length).length+1) (meA M c ow gv);have hv:meA M c ow gv k (fl c M.length).length=riQ M c ow gv ((fl c M.length).getD k 0) M.length:=by
   unfold meA hA;rw[if_pos rfl]
  rw[<-tabm_snoc,hv]at e2;rw[if_neg (by simp),wr (by omega) (by omega)];have hlen:∀q:Bool×(List Int×List Int),((tab (fl c M.length).length (meA M c ow gv k)).map (rp B10)++[q]).length=(fl c M.length).length+1:=fun q=>by simp [a1g]
  have e4:∀q:Q3,((rp B10 q).1,(rp B10 q).2.1,(rp B10 q).2.2)=rp B10 q:=fun _=>rfl
  simp only[e4,hlen,a0q,a4b,List.length_map,a1g,List.length_cons,List.length_nil,Nat.zero_add,e1,e3,e2.1,e2.2,decide_true,if_true,Bool.false_eq_true,if_false];rfl) (by omega)
 exact key
theorem sme_row {M:List (List Q3)} (h:isCh M) {c:Nat->Bool} {ow gv:Nat->Q3} (ho:zo ow) (hg:zo gv) {k:Nat} (hk:k<(fl c M.length).length) (g) {K:Nat} (hK:12<K):
  loopP (P.s_l03Means_b4 K g) K ((0:Int),((fl c M.length).length:Int),mp B10 M,(((fl c M.length).getD k 0:Nat):Int),zs (fl c M.length),(k:Int),([]:List (Bool×(List Int×List Int))),(tab M.length ow).map (rp B10),(tab M.length gv).map (rp B10),om B10 k ((fl c M.length).length+1) (meA M c ow gv),(k:Int),((fl c M.length).length:Int),())=g (((k+1:Nat):Int),((fl c M.length).length:Int),zs (fl c M.length),mp B10 M,(tab M.length ow).map (rp B10),(tab M.length gv).map (rp B10),om B10 (k+1) ((fl c M.length).length+1) (meA M c ow gv),()):=by
 have hI:=h.2.1;have hn:=hI.1;have hfl:=fl_le c M.length;have hi:=(fl_at hk).1;have key:=a0g (k:=K) (b:=P.s_l03Means_b4 K g) (n:=(fl c M.length).length) (st:=fun r=>((r:Int),((fl c M.length).length:Int),mp B10 M,(((fl c M.length).getD k 0:Nat):Int),zs (fl c M.length),(k:Int),(tab r (meA M c ow gv k)).map (rp B10),(tab M.length ow).map (rp B10),(tab M.length gv).map (rp B10),om B10 k ((fl c M.length).length+1) (meA M c ow gv),(k:Int),((fl c M.length).length:Int),())) (F:=fun _=>g (((k+1:Nat):Int),((fl c M.length).length:Int),zs (fl c M.length),mp B10 M,(tab M.length ow).map (rp B10),(tab M.length gv).map (rp B10),om B10 (k+1) ((fl c M.length).length+1) (meA M c ow gv),())) (fun r g' hr hg'=>by
  unfold P.s_l03Means_b4;dsimp only at hg' ⊢;have hj:=(fl_at hr).1;have hv:meA M c ow gv k r=if k=r then addQ (oppQ (leN M false c k r)) oneQ else oppQ (leN M false c k r):=hA_at _ _ _ _ hr
  have hl:leN M false c k r=mq M ((fl c M.length).getD k 0) ((fl c M.length).getD r 0):=by
   unfold leN;rw[if_neg (by decide)];rfl
  have hok:=leN_ok h (tu:=false) hk hr;rw[hl]at hv hok;generalize (fl c M.length).getD k 0=i at*;have e1:(r:Int)<((fl c M.length).length:Int):=by omega
  have e2:(0:Int)<=(r:Int):=by omega
  have e3:(0:Int)<=(i:Int):=by omega
  have e4:(i:Int)<(M.length:Int):=by omega
  have e5:(0:Int)<=(((fl c M.length).getD r 0:Nat):Int):=by omega
  have e6:(((fl c M.length).getD r 0:Nat):Int)<(M.length:Int):=by omega
  have e7:(r+1)*56<=140737488355328:=by omega
  have e8:((mp B10 M).getD i []).getD ((fl c M.length).getD r 0) (false,(([]:List Int),([]:List Int)))=rp B10 (mq M i ((fl c M.length).getD r 0)):=mq_held hI hi hj;have e9:∀q:Q3,((rp B10 q).1,(rp B10 q).2.1,(rp B10 q).2.2)=rp B10 q:=fun _=>rfl
  rw[<-tabm_snoc,hv]at hg';simp only[zs_len,getD_zs,Int.toNat_natCast,a5b,mq_wide hI hi,List.length_map,a1g,List.length_cons,List.length_nil,Nat.zero_add,a1b,a1q,e1,e2,e3,e4,e5,e6,e7,e8,decide_true,if_true,Bool.false_eq_true,if_false];rw[sme_opp hok.1,Option.bind_some,wr (by omega) (by omega)];dsimp only
  by_cases hkr:k=r
  ·rw[if_pos hkr]at hg';rw[if_pos (by rw[beq_iff_eq];omega),sme_one,Option.bind_some,sme_add hok.2 okq_one,Option.bind_some];exact hg'
  ·rw[if_neg hkr]at hg';rw[if_neg (by rw[beq_iff_eq];omega)];exact hg') (fun g'=>by
  unfold P.s_l03Means_b4;dsimp only;have e3:(0:Int)<=(((fl c M.length).getD k 0:Nat):Int):=by omega
  have e4:(((fl c M.length).getD k 0:Nat):Int)<(M.length:Int):=by omega
  have e9:((tab M.length ow).map (rp B10)).getD ((fl c M.length).getD k 0) (false,(([]:List Int),([]:List Int)))=rp B10 (ow ((fl c M.length).getD k 0)):=a5l hi _;rw[if_neg (by simp)];simp only[Int.toNat_natCast,a5b,List.length_map,a1g,a1b,a1q,e3,e4,e9,decide_true,if_true,Bool.false_eq_true,if_false];exact sme_right h ho hg hk g hK) (by omega)
 exact key
open Classical in
def S.s_l03Means (x:((List (List RB))×((List Int)×((List RB)×((List RB)×Unit))))):(Option ((List RB)×Unit)):=if ∃M,isCh M/\x.1=mp B10 M/\x.2.1=zs (fl (cZ x.2.1) M.length)/\x.2.2.1=(tab M.length (zoL x.2.2.1)).map (rp B10)/\x.2.2.2.1=(tab M.length (zoL x.2.2.2.1)).map (rp B10)/\wayOut M (cZ x.2.1)then some ((meL (mv B10 x.1) (cZ x.2.1) (zoL x.2.2.1) (zoL x.2.2.2.1)).map (rp B10),())else none
theorem S.s_l03Means_ok (x r) (h:S.s_l03Means x=some r):∃k,P.s_l03Means k x=some r:=by
 obtain⟨m,L,W,G,u⟩:=x;unfold S.s_l03Means at h;dsimp only at h;split at h
 case isFalse=>cases h
 rename_i hc;obtain⟨M,hM,rfl,hL,hW,hG,hw⟩:=hc;rw[mv_mp (by decide)]at h;have ho:=zoL_zo W;have hg:=zoL_zo G;generalize zoL W=ow at*;generalize zoL G=gv at*;generalize cZ L=c at*;subst hL hW hG;cases h;have hI:=hM.2.1;have hn:=hI.1;have hfl:=fl_le c M.length;refine⟨13,?_⟩;unfold P.s_l03Means;dsimp only;rw[zs_len];have key:=a0g (k:=13) (b:=P.s_l03Means_b0 13) (n:=(fl c M.length).length) (st:=fun k=>((k:Int),((fl c M.length).length:Int),zs (fl c M.length),mp B10 M,(tab M.length ow).map (rp B10),(tab M.length gv).map (rp B10),om B10 k ((fl c M.length).length+1) (meA M c ow gv),())) (F:=fun _=>some ((meL M c ow gv).map (rp B10),())) (fun k g hk hg'=>by
  unfold P.s_l03Means_b0;dsimp only at hg' ⊢;have e1:(k:Int)<((fl c M.length).length:Int):=by omega
  have e2:(0:Int)<=(k:Int):=by omega
  simp only[zs_len,getD_zs,Int.toNat_natCast,a1b,a1q,e1,e2,decide_true,if_true,Bool.false_eq_true,if_false];rw[<-hg'];exact sme_row hM ho hg hk g (by decide)) (fun g=>by
  unfold P.s_l03Means_b0;dsimp only;have e3:M.length*56<=140737488355328:=by omega
  rw[if_neg (by simp),a1b,a1q,if_neg (by decide),solve_s (me_els hM ho hg hw),Option.bind_some];simp only[zs_len,Nat.zero_add,List.length_map,a1g,List.nil_append,e3,decide_true,if_true];have key2:=a0g (k:=13) (b:=P.s_l03Means_b24) (n:=(fl c M.length).length) (st:=fun a=>((a:Int),((fl c M.length).length:Int),(puts M.length c (solS (meA M c ow gv) (fl c M.length).length) gv a).map (rp B10),zs (fl c M.length),(tab (fl c M.length).length (solS (meA M c ow gv) (fl c M.length).length)).map (rp B10),())) (F:=fun _=>some ((meL M c ow gv).map (rp B10),())) (fun a g' ha hg'=>by
   unfold P.s_l03Means_b24;dsimp only at hg' ⊢;obtain⟨q1,q2⟩:=fl_at ha;have e1:(a:Int)<((fl c M.length).length:Int):=by omega
   have e2:(0:Int)<=(a:Int):=by omega
   have e5:(0:Int)<=(((fl c M.length).getD a 0:Nat):Int):=by omega
   have e6:(((fl c M.length).getD a 0:Nat):Int)<(M.length:Int):=by omega
   simp only[zs_len,getD_zs,Int.toNat_natCast,List.length_map,a1g,puts_len,a5l ha,Nat.zero_add,e1,e2,e5,e6,decide_true,if_true];rw[wr (by omega) (by omega)];rw[<-puts_set ha]at hg';exact hg') (fun g'=>by
   unfold P.s_l03Means_b24;dsimp only;rw[if_neg (by simp),puts_all];rfl) (by omega)
  rw[puts_zero]at key2;exact key2) (by omega)
 exact key
abbrev s_l03Hits.A:=Int×Int×List RB×List Int×List RB×List (List RB)×Unit
abbrev P.s_l03Hits_b0 (x1:s_l03Hits.A) (g2:s_l03Hits.A->Option (List RB×Unit)):Option (List RB×Unit):=
 (fun(a b:Int) (c e:List RB) (d:List Int) (f:List (List RB))=>if decide (a<b)then(S.s_l01None ()).bind fun y3=>if decide (((c.length+(List.length [(y3.1.1,y3.1.2.1,y3.1.2.2)]))*56)<=140737488355328)then(S.a4l (d,a,())).bind fun y4=>if y4.1 then(S.s_l01One ()).bind fun y5=>if decide (((e.length+(List.length [(y5.1.1,y5.1.2.1,y5.1.2.2)]))*56)<=140737488355328)then g2 (wrap .i64 (a+1),b,c++[(y3.1.1,y3.1.2.1,y3.1.2.2)],d,e++[(y5.1.1,y5.1.2.1,y5.1.2.2)],f,())else none else(S.s_l01None ()).bind fun y6=>if decide (((e.length+(List.length [(y6.1.1,y6.1.2.1,y6.1.2.2)]))*56)<=140737488355328)then g2 (wrap .i64 (a+1),b,c++[(y3.1.1,y3.1.2.1,y3.1.2.2)],d,e++[(y6.1.1,y6.1.2.1,y6.1.2.2)],f,())else none else none else(S.s_l03Inner (f,d,())).bind fun y7=>(S.s_l03Means (f,y7.1,c,e,())).bind fun y8=>some (y8.1,())) x1.1 x1.2.1 x1.2.2.1 x1.2.2.2.2.1 x1.2.2.2.1 x1.2.2.2.2.2.1
def P.s_l03Hits (k:Nat) (x:List (List RB)×List Int×Unit):Option (List RB×Unit):=
 loopP P.s_l03Hits_b0 k (0,(x.1.length:Int),[],x.2.1,[],x.1,())
theorem shi_has {ts:List Int} (h:ts.length<=1000000) (j:Nat):S.a4l (ts,(j:Int),())=some (tgF ts j,()):=by
 unfold S.a4l;dsimp only;rw[if_pos h];rfl
theorem shi_one:S.s_l01One ()=some (rp B10 oneQ,()):=by rfl
theorem shi_none:S.s_l01None ()=some (rp B10 a2a,()):=by rfl
open Classical in
def S.s_l03Hits (x:((List (List RB))×((List Int)×Unit))):(Option ((List RB)×Unit)):=if(∃M,isCh M/\x.1=mp B10 M)/\x.2.1.length<=1000000 then some ((hitL (mv B10 x.1) (tgF x.2.1)).map (rp B10),())else none
theorem S.s_l03Hits_ok (x r) (h:S.s_l03Hits x=some r):∃k,P.s_l03Hits k x=some r:=by
 obtain⟨m,ts,u⟩:=x;unfold S.s_l03Hits at h;dsimp only at h;split at h
 case isFalse=>cases h
 rename_i hc;obtain⟨⟨M,hM,rfl⟩,ht⟩:=hc;rw[mv_mp (by decide)]at h;cases h;have hI:=hM.2.1;have hn:=hI.1;have hn0:0<M.length:=hM.1;refine⟨13,?_⟩;unfold P.s_l03Hits;dsimp only;rw[a5b];exact a0g (k:=13) (b:=P.s_l03Hits_b0) (n:=M.length) (st:=fun i=>((i:Int),(M.length:Int),(tab i nilQ).map (rp B10),ts,(tab i (tgQ (tgF ts))).map (rp B10),mp B10 M,())) (F:=fun _=>some ((hitL M (tgF ts)).map (rp B10),())) (fun i g hi hg=>by
  unfold P.s_l03Hits_b0;dsimp only at hg ⊢;have e1:(i:Int)<(M.length:Int):=by omega
  have e3:(i+1)*56<=140737488355328:=by omega
  have e4:∀q:Q3,((rp B10 q).1,(rp B10 q).2.1,(rp B10 q).2.2)=rp B10 q:=fun _=>rfl
  have hv:tgQ (tgF ts) i=if tgF ts i=true then oneQ else a2a:=rfl
  rw[<-tabm_snoc,<-tabm_snoc,hv]at hg;rw[if_pos (decide_eq_true e1),shi_none,Option.bind_some,shi_has ht,Option.bind_some,shi_one];dsimp only;simp only[e4,List.length_map,a1g,List.length_cons,List.length_nil,Nat.zero_add,e3,decide_true,if_true,Option.bind_some];rw[wr (by omega) (by omega)];cases hc:tgF ts i
  ·rw[hc,if_neg (by decide)]at hg;rw[if_neg (by decide)];exact hg
  ·rw[hc,if_pos rfl]at hg;rw[if_pos rfl];exact hg) (fun g=>by
  unfold P.s_l03Hits_b0;dsimp only;have ei:S.s_l03Inner (mp B10 M,ts,())=some (zs (fl (inC M (tgF ts)) M.length),()):=by
   unfold S.s_l03Inner;dsimp only;rw[if_pos ⟨⟨M,hI,rfl⟩,ht⟩,mv_mp (by decide),a5b]
  have hz:∀i,i<M.length->cZ (zs (fl (inC M (tgF ts)) M.length)) i=inC M (tgF ts) i:=fun i hi=>cZ_fl hi
  have h1:∀i,i<M.length->zoL ((tab M.length nilQ).map (rp B10)) i=nilQ i:=fun i hi=>zoL_at nilQ_zo hi
  have h2:∀i,i<M.length->zoL ((tab M.length (tgQ (tgF ts))).map (rp B10)) i=tgQ (tgF ts) i:=fun i hi=>zoL_at (tgQ_zo _) hi
  have em:S.s_l03Means (mp B10 M,zs (fl (inC M (tgF ts)) M.length),(tab M.length nilQ).map (rp B10),(tab M.length (tgQ (tgF ts))).map (rp B10),())=some ((hitL M (tgF ts)).map (rp B10),()):=by
   unfold S.s_l03Means;dsimp only
   rw[if_pos ⟨M,hM,rfl,by rw[cZ_self],by rw[a0v h1],by rw[a0v h2],fun i hi hc=>by
    rw[hz i hi]at hc;obtain⟨j,hj,q,w⟩:=inC_out i hi hc;exact⟨j,hj,by rw[hz j hj];exact q,w⟩⟩,mv_mp (by decide),meL_congr hn0 hz h1 h2,hit_same hM]
  rw[if_neg (by simp),ei,Option.bind_some];dsimp only;rw[em,Option.bind_some]) (by omega)
abbrev P.s_l03Same1_b0 (x1:Int×Int×List RB×Unit) (g2:Int×Int×List RB×Unit->Option (Bool×Unit)):Option (Bool×Unit):=
 if decide (x1.1<x1.2.1)then if decide (0<=x1.1)then if decide (x1.1<(x1.2.2.1.length:Int))then(S.s_l01One ()).bind fun y3=>(S.a4t (((x1.2.2.1.getD x1.1.toNat (false,[],[])).1,(x1.2.2.1.getD x1.1.toNat (false,[],[])).2.1,(x1.2.2.1.getD x1.1.toNat (false,[],[])).2.2),(y3.1.1,y3.1.2.1,y3.1.2.2),())).bind fun y4=>if !y4.1 then some (false,())else g2 (wrap .i64 (x1.1+1),x1.2.1,x1.2.2.1,())else none else none else some (true,())
def P.s_l03Same1 (k:Nat) (x:List RB×Unit):Option (Bool×Unit):=
 loopP P.s_l03Same1_b0 k (0,(x.1.length:Int),x.1,())
open Classical in
def S.s_l03Same1 (x:((List RB)×Unit)):(Option (Bool×Unit)):=if ∃qs:List Q3,(∀q∈qs,okq q)/\qs.length<=12/\x.1=qs.map (rp B10)then some (all1 (x.1.map (rv B10)),())else none
theorem S.s_l03Same1_ok (x r) (h:S.s_l03Same1 x=some r):∃k,P.s_l03Same1 k x=some r:=by
 obtain⟨xs,u⟩:=x;unfold S.s_l03Same1 at h;dsimp only at h;split at h
 case isFalse=>cases h
 rename_i hc;obtain⟨qs,hq,hl,rfl⟩:=hc;rw[map_rv a0d]at h;cases h;refine⟨13,?_⟩;unfold P.s_l03Same1 all1;dsimp only;rw[List.length_map];have key:=a0g (k:=13) (b:=P.s_l03Same1_b0) (n:=qs.length) (st:=fun i=>((i:Int),(qs.length:Int),qs.map (rp B10),())) (F:=fun i=>some ((qs.drop i).all fun q=>decide (q=oneQ),())) (fun i g hi hg=>by
  unfold P.s_l03Same1_b0;dsimp only at hg ⊢;have e1:(i:Int)<(qs.length:Int):=by omega
  have e2:(0:Int)<=(i:Int):=by omega
  have e8:(qs.map (rp B10)).getD i (false,(([]:List Int),([]:List Int)))=rp B10 qs[i]:=by
   rw[List.getD_eq_getElem?_getD,List.getElem?_map,List.getElem?_eq_getElem hi];rfl
  have hk:=hq _ (List.getElem_mem hi);have ho:S.s_l01One ()=some (rp B10 oneQ,()):=by rfl
  have ee:S.a4t (((rp B10 qs[i]).1,(rp B10 qs[i]).2.1,(rp B10 qs[i]).2.2),((rp B10 oneQ).1,(rp B10 oneQ).2.1,(rp B10 oneQ).2.2),())=some (decide (qs[i]=oneQ),()):=rs_equal hk.1 oneQ_low hk.2 (oneQ_below (by decide));simp only[Int.toNat_natCast,List.length_map,e1,e2,e8,decide_true,if_true];rw[ho,Option.bind_some,ee,Option.bind_some,List.drop_eq_getElem_cons hi,List.all_cons];dsimp only;cases hq2:decide (qs[i]=oneQ)
  ·rw[if_pos (by decide),Bool.false_and]
  ·rw[if_neg (by decide),Bool.true_and,wr (by omega) (by omega)];exact hg) (fun g=>by
  unfold P.s_l03Same1_b0;dsimp only;rw[if_neg (by simp),List.drop_length];rfl) (by omega)
 rw[List.drop_zero]at key;exact key
abbrev s_l03Times.A:=Int×Int×List RB×List RB×List (List RB)×List Int×Unit
abbrev P.s_l03Times_b0 (x1:s_l03Times.A) (g2:s_l03Times.A->Option (List RB×Unit)):Option (List RB×Unit):=
 if decide (x1.1<x1.2.1)then(S.s_l01One ()).bind fun y3=>if decide (((x1.2.2.1.length+(List.length [(y3.1.1,y3.1.2.1,y3.1.2.2)]))*56)<=140737488355328)then(S.s_l01None ()).bind fun y4=>if decide (((x1.2.2.2.1.length+(List.length [(y4.1.1,y4.1.2.1,y4.1.2.2)]))*56)<=140737488355328)then g2 (wrap .i64 (x1.1+1),x1.2.1,x1.2.2.1++[(y3.1.1,y3.1.2.1,y3.1.2.2)],x1.2.2.2.1++[(y4.1.1,y4.1.2.1,y4.1.2.2)],x1.2.2.2.2.1,x1.2.2.2.2.2.1,())else none else none else(S.s_l03Inner (x1.2.2.2.2.1,x1.2.2.2.2.2.1,())).bind fun y5=>(S.s_l03Means (x1.2.2.2.2.1,y5.1,x1.2.2.1,x1.2.2.2.1,())).bind fun y6=>some (y6.1,())
def P.s_l03Times (k:Nat) (x:List (List RB)×List Int×Unit):Option (List RB×Unit):=
 loopP P.s_l03Times_b0 k (0,(x.1.length:Int),[],[],x.1,x.2.1,())
open Classical in
def S.s_l03Times (x:((List (List RB))×((List Int)×Unit))):(Option ((List RB)×Unit)):=if(∃M,isCh M/\x.1=mp B10 M)/\x.2.1.length<=1000000 then some ((tmL (mv B10 x.1) (inC (mv B10 x.1) (tgF x.2.1))).map (rp B10),())else none
theorem S.s_l03Times_ok (x r) (h:S.s_l03Times x=some r):∃k,P.s_l03Times k x=some r:=by
 obtain⟨m,ts,u⟩:=x;unfold S.s_l03Times at h;dsimp only at h;split at h
 case isFalse=>cases h
 rename_i hc;obtain⟨⟨M,hM,rfl⟩,ht⟩:=hc;rw[mv_mp (by decide)]at h;cases h;have hI:=hM.2.1;have hn:=hI.1;have hn0:0<M.length:=hM.1;refine⟨13,?_⟩;unfold P.s_l03Times;dsimp only;rw[a5b];exact a0g (k:=13) (b:=P.s_l03Times_b0) (n:=M.length) (st:=fun i=>((i:Int),(M.length:Int),(tab i oneF).map (rp B10),(tab i nilQ).map (rp B10),mp B10 M,ts,())) (F:=fun _=>some ((tmL M (inC M (tgF ts))).map (rp B10),())) (fun i g hi hg=>by
  unfold P.s_l03Times_b0;dsimp only at hg ⊢;have e1:(i:Int)<(M.length:Int):=by omega
  have e3:(i+1)*56<=140737488355328:=by omega
  have e4:∀q:Q3,((rp B10 q).1,(rp B10 q).2.1,(rp B10 q).2.2)=rp B10 q:=fun _=>rfl
  have o1:S.s_l01One ()=some (rp B10 oneQ,()):=by rfl
  have o2:S.s_l01None ()=some (rp B10 a2a,()):=by rfl
  rw[<-tabm_snoc,<-tabm_snoc]at hg;rw[if_pos (decide_eq_true e1),o1,Option.bind_some,o2];dsimp only;simp only[e4,List.length_map,a1g,List.length_cons,List.length_nil,Nat.zero_add,e3,decide_true,if_true,Option.bind_some];rw[wr (by omega) (by omega)];exact hg) (fun g=>by
  unfold P.s_l03Times_b0;dsimp only;have ei:S.s_l03Inner (mp B10 M,ts,())=some (zs (fl (inC M (tgF ts)) M.length),()):=by
   unfold S.s_l03Inner;dsimp only;rw[if_pos ⟨⟨M,hI,rfl⟩,ht⟩,mv_mp (by decide),a5b]
  have hz:∀i,i<M.length->cZ (zs (fl (inC M (tgF ts)) M.length)) i=inC M (tgF ts) i:=fun i hi=>cZ_fl hi
  have h1:∀i,i<M.length->zoL ((tab M.length oneF).map (rp B10)) i=oneF i:=fun i hi=>zoL_at oneF_zo hi
  have h2:∀i,i<M.length->zoL ((tab M.length nilQ).map (rp B10)) i=nilQ i:=fun i hi=>zoL_at nilQ_zo hi
  have em:S.s_l03Means (mp B10 M,zs (fl (inC M (tgF ts)) M.length),(tab M.length oneF).map (rp B10),(tab M.length nilQ).map (rp B10),())=some ((tmL M (inC M (tgF ts))).map (rp B10),()):=by
   unfold S.s_l03Means;dsimp only;rw[if_pos ⟨M,hM,rfl,by rw[cZ_self],by rw[a0v h1],by rw[a0v h2],way_congr (fun i hi=>(hz i hi).symm) inC_out⟩,mv_mp (by decide),meL_congr hn0 hz h1 h2,tm_same hM inC_out]
  rw[if_neg (by simp),ei,Option.bind_some];dsimp only;rw[em,Option.bind_some]) (by omega)
def P.s_HitTimes (k:Nat) (x:List (List ByteArray)×List Int×Unit):Option ((List ByteArray×Bool)×Unit):=
 (S.s_l03Parse (x.1,())).bind fun y0=>if !y0.1.2 then some (([],false),())else(S.s_l03Targets (y0.1.1,x.2.1,())).bind fun y1=>if !y1.1 then some (([],false),())else(S.s_l03Hits (y0.1.1,x.2.1,())).bind fun y2=>(S.s_l03Same1 (y2.1,())).bind fun y3=>if !y3.1 then some (([],false),())else(S.s_l03Times (y0.1.1,x.2.1,())).bind fun y4=>(S.s_l01GiveAll (y4.1,())).bind fun y5=>some ((y5.1.1,y5.1.2),())
def S.s_HitTimes (x:((List (List ByteArray))×((List Int)×Unit))):(Option (((List ByteArray)×Bool)×Unit)):=P.s_HitTimes 0 x
theorem S.s_HitTimes_ok (x r) (h:S.s_HitTimes x=some r):∃k,P.s_HitTimes k x=some r:=⟨0,h⟩
def P.i_magnitude (k:Nat) (x:Int×Unit):Option (Int×Unit):=
 if decide (x.1<0)then some (wrap .u64 (0 - (wrap .u64 x.1)),())else some (wrap .u64 x.1,())
def S.i_magnitude (x:(Int×Unit)):(Option (Int×Unit)):=if -9223372036854775808<=x.1/\x.1<=9223372036854775807 then some (((x.1.natAbs:Nat):Int),())else none
theorem S.i_magnitude_ok (x r) (h:S.i_magnitude x=some r):∃k,P.i_magnitude k x=some r:=by
 obtain⟨n,u⟩:=x;unfold S.i_magnitude at h;dsimp only at h;split at h
 case isFalse=>cases h
 rename_i hc;cases h;refine⟨0,?_⟩;unfold P.i_magnitude;dsimp only;have hw:∀y:Int,IntKind.wrap .u64 y=y%18446744073709551616:=fun _=>rfl
 rw[hw,hw]
 by_cases h0:n<0
 ·rw[if_pos (decide_eq_true h0)];congr 2;omega
 ·rw[if_neg (by simpa using h0)];congr 2;omega
abbrev P.i_nat_trim_b0 (x1:List Int×Unit) (g2:List Int×Unit->Option (List Int×Unit)):Option (List Int×Unit):=
 if decide ((x1.1.length:Int)>0)then if decide (0<=(wrap .i64 ((x1.1.length:Int) - 1)))then if decide ((wrap .i64 ((x1.1.length:Int) - 1))<(x1.1.length:Int))then if(x1.1.getD (Int.toNat (wrap .i64 ((x1.1.length:Int) - 1))) 0)==0 then if decide (0<=(wrap .i64 ((x1.1.length:Int) - 1)))then if decide ((wrap .i64 ((x1.1.length:Int) - 1))<=(x1.1.length:Int))then if decide (0<=(wrap .i64 ((x1.1.length:Int) - 1)))then g2 (seen x1.1 0 ((Int.toNat (wrap .i64 ((x1.1.length:Int) - 1))) - 0),())else none else none else none else some (x1.1,())else none else none else some (x1.1,())
def P.i_nat_trim (k:Nat) (x:List Int×Unit):Option (List Int×Unit):=
 loopP P.i_nat_trim_b0 k (x.1,())
theorem trim_loop (n:Nat):∀(xs:List Int) (k:Nat),xs.length=n->n<k->n<=1000000000000->dig B32 xs=true->loopP (X:=((List Int)×Unit)) (R:=((List Int)×Unit)) P.i_nat_trim_b0 k (xs,())=some (nd B32 (a0c B32 xs),()):=by
 induction n with
 |zero=>
  intro xs k hx hk _ _;have:xs=[]:=List.eq_nil_of_length_eq_zero hx;subst this;obtain⟨k,rfl⟩:∃j,k=j+1:=⟨k - 1,by omega⟩
  rw[a0k];unfold P.i_nat_trim_b0;rw[if_neg (by simp)];rw[show a0c B32 []=0 from rfl,a1t a0e]
 |succ n ih=>
  intro xs k hx hk hn hd;obtain⟨k,rfl⟩:∃j,k=j+1:=⟨k - 1,by omega⟩
  rw[a0k];unfold P.i_nat_trim_b0;dsimp only;have e0:IntKind.wrap .i64 ((xs.length:Int) - 1)=(n:Int):=by rw[wr (by omega) (by omega)];omega
  have e1:(xs.length:Int)>0:=by omega
  have e2:(0:Int)<=(n:Int):=by omega
  have e3:(n:Int)<(xs.length:Int):=by omega
  have e4:(n:Int)<=(xs.length:Int):=by omega
  rw[e0];simp only[e1,e2,e3,e4,decide_true,if_true];rw[a0n xs n _ (by omega)];have hs:=take_snoc xs n hx;have hdt:dig B32 (xs.take n++[xs[n]])=true:=by rw[<-hs];exact hd
  by_cases hz:xs[n]=0
  ·rw[if_pos (by simp [hz])];have e5:seen xs 0 ((n:Int).toNat - 0)=xs.take n:=by simp [seen]
   rw[e5];have hdt':=hdt;rw[a1m,Bool.and_eq_true]at hdt';rw[ih (xs.take n) k (by simp;omega) (by omega) (by omega) hdt'.1];have:a0c B32 xs=a0c B32 (xs.take n):=by
    conv=>lhs;rw[hs,hz]
    exact dval_snoc_zero _
   rw[this]
  ·rw[if_neg (by simp [hz])];have:=nd_snoc a0e (xs.take n) xs[n] hdt hz;rw[<-hs]at this;rw[this]
def S.a3j (x:((List Int)×Unit)):(Option ((List Int)×Unit)):=if dig B32 x.1=true/\x.1.length<=1000000000000 then some (nd B32 (a0c B32 x.1),())else none
theorem S.i_nat_trim_ok (x r) (h:S.a3j x=some r):∃k,P.i_nat_trim k x=some r:=by
 obtain⟨xs,u⟩:=x;unfold S.a3j at h;dsimp only at h;split at h
 case isFalse=>cases h
 rename_i hc;cases h;exact⟨xs.length+1,trim_loop xs.length xs _ rfl (by omega) hc.2 hc.1⟩
theorem trim_i (xs:List Int) (h:dig B32 xs=true) (hl:xs.length<=1000000000000):S.a3j (xs,())=some (nd B32 (a0c B32 xs),()):=by
 unfold S.a3j;dsimp only;rw[if_pos ⟨h,hl⟩]
def P.i_natOf (k:Nat) (x:Int×Unit):Option (List Int×Unit):=
 (S.a3j ((wrap .u32 x.1)::[wrap .u32 (Int.fdiv x.1 4294967296)],())).bind fun y0=>some (y0.1,())
def S.a2s (x:(Int×Unit)):(Option ((List Int)×Unit)):=if 0<=x.1/\x.1<18446744073709551616 then some (nd B32 x.1.toNat,())else none
theorem S.i_natOf_ok (x r) (h:S.a2s x=some r):∃k,P.i_natOf k x=some r:=by
 obtain⟨n,u⟩:=x;unfold S.a2s at h;dsimp only at h;split at h
 case isFalse=>cases h
 rename_i hc;cases h;refine⟨0,?_⟩;unfold P.i_natOf;dsimp only;have hf:Int.fdiv n 4294967296=n/4294967296:=Int.fdiv_eq_ediv_of_nonneg _ (by omega);rw[hf,u32_mod n hc.1,u32_mod _ (by omega)];have hd:dig B32 [n%4294967296,n/4294967296%4294967296]=true:=by
  rw[a2g,a2g];refine⟨⟨by omega,?_⟩,⟨by omega,?_⟩,rfl⟩
  ·show _<(4294967296:Int);omega
  ·show _<(4294967296:Int);omega
 rw[trim_i _ hd (by simp),Option.bind_some];have:a0c B32 [n%4294967296,n/4294967296%4294967296]=n.toNat:=by
  simp only[a0c];show(n%4294967296).toNat+4294967296*((n/4294967296%4294967296).toNat+4294967296*0)=n.toNat;omega
 rw[this]
def P.i_whole (k:Nat) (x:Int×Unit):Option (RB×Unit):=
 (S.i_magnitude (x.1,())).bind fun y0=>(S.a2s (y0.1,())).bind fun y1=>(S.a2s (1,())).bind fun y2=>some ((decide (x.1<0),y1.1,y2.1),())
def S.a2x (x:(Int×Unit)):(Option (RB×Unit)):=if -9223372036854775808<=x.1/\x.1<=9223372036854775807 then some (rp B32 (wholeQ x.1),())else none
theorem S.i_whole_ok (x r) (h:S.a2x x=some r):∃k,P.i_whole k x=some r:=by
 obtain⟨n,u⟩:=x;unfold S.a2x at h;dsimp only at h;split at h
 case isFalse=>cases h
 rename_i hc;cases h;refine⟨0,?_⟩;unfold P.i_whole S.i_magnitude S.a2s;dsimp only;rw[if_pos hc,Option.bind_some];dsimp only;rw[if_pos ⟨by omega,by omega⟩,Option.bind_some,Int.toNat_natCast,if_pos ⟨by decide,by decide⟩,Option.bind_some];rfl
abbrev P.i_nat_cmp_b0 (x1:Int×List Int×List Int×Unit) (g2:Int×List Int×List Int×Unit->Option (Int×Unit)):Option (Int×Unit):=
 (fun(a:Int) (b c:List Int)=>if decide (a>=0)then if decide (0<=a)then if decide (a<(b.length:Int))then if decide (0<=a)then if decide (a<(c.length:Int))then if(b.getD a.toNat 0) != (c.getD a.toNat 0)then if decide (0<=a)then if decide (a<(b.length:Int))then if decide (0<=a)then if decide (a<(c.length:Int))then if decide ((b.getD a.toNat 0)<(c.getD a.toNat 0))then some ((-1:Int),())else some (1,())else none else none else none else none else g2 (wrap .i64 (a - 1),b,c,())else none else none else none else none else some (0,())) x1.1 x1.2.1 x1.2.2.1
def P.i_nat_cmp (k:Nat) (x:List Int×List Int×Unit):Option (Int×Unit):=
 if(x.1.length:Int) != (x.2.1.length:Int)then if decide ((x.1.length:Int)<(x.2.1.length:Int))then some ((-1:Int),())else some (1,())else loopP P.i_nat_cmp_b0 k (wrap .i64 ((x.1.length:Int) - 1),x.1,x.2.1,())
def S.a1j (x:((List Int)×((List Int)×Unit))):(Option (Int×Unit)):=if a2m B32 x.1=true/\a2m B32 x.2.1=true/\x.1.length<=1000000000000 then some (cmpN (a0c B32 x.1) (a0c B32 x.2.1),())else none
theorem S.i_nat_cmp_ok (x r) (h:S.a1j x=some r):∃k,P.i_nat_cmp k x=some r:=by
 obtain⟨xs,ys,u⟩:=x;unfold S.a1j at h;dsimp only at h;split at h
 case isFalse=>cases h
 rename_i hc;obtain⟨cx,cy,hl⟩:=hc;cases h;refine⟨xs.length+1,?_⟩;unfold P.i_nat_cmp;dsimp only
 by_cases hn:xs.length=ys.length
 ·rw[if_neg (by simp [hn]),wr (by omega) (by omega)];have key:=a0g (k:=xs.length+1) (b:=P.i_nat_cmp_b0) (n:=xs.length) (st:=fun j=>((xs.length:Int) - 1 - (j:Int),xs,ys,())) (F:=fun j=>some (cmpN (a0c B32 (xs.take (xs.length - j))) (a0c B32 (ys.take (xs.length - j))),())) (fun j g hj hg=>by
   unfold P.i_nat_cmp_b0;dsimp only at hg ⊢;have e1:(xs.length:Int) - 1 - (j:Int)>=0:=by omega
   have e3:(0:Int)<=(xs.length:Int) - 1 - (j:Int):=by omega
   have e4:(xs.length:Int) - 1 - (j:Int)<(xs.length:Int):=by omega
   have e4':(xs.length:Int) - 1 - (j:Int)<(ys.length:Int):=by omega
   simp only[e1,e4,e4',decide_true,if_true];have hi:xs.length - (j+1)<xs.length:=by omega
   have hi':xs.length - (j+1)<ys.length:=by omega
   have e5:(xs.length:Int) - 1 - (j:Int)=((xs.length - (j+1):Nat):Int):=by omega
   have e6:xs.length - j=(xs.length - (j+1))+1:=by omega
   rw[e5,a0n xs _ _ hi,a0n ys _ _ hi',e6];generalize xs.length - (j+1)=i at*
   by_cases hq:xs[i]=ys[i]
   ·rw[if_neg (by simp [hq]),wr (by omega) (by omega)];have e7:((i:Nat):Int) - 1=(xs.length:Int) - 1 - ((j+1:Nat):Int):=by omega
    rw[e7,hg,<-List.take_append_getElem hi,<-List.take_append_getElem hi',a0x,a0x,hq];have hlx:(xs.take i).length=i:=by simp;omega
    have hly:(ys.take i).length=i:=by simp;omega
    rw[hlx,hly];unfold cmpN;simp only[Nat.add_lt_add_iff_right]
   ·rw[if_pos (by simp [hq])]
    by_cases hlt:xs[i]<ys[i]
    ·have:=dval_top xs ys i hi hi' (a1p cx) (a1p cy) hlt;rw[if_pos (decide_eq_true hlt),cmpN,if_pos this]
    ·have:=dval_top ys xs i hi' hi (a1p cy) (a1p cx) (by omega);rw[if_neg (by simpa using hlt),cmpN,if_neg (by omega),if_pos this]) (fun g=>by
   unfold P.i_nat_cmp_b0;dsimp only;rw[if_neg (by simp;omega),Nat.sub_self,List.take_zero,List.take_zero];rfl) (by omega)
  rw[show(xs.length:Int) - 1 - ((0:Nat):Int)=(xs.length:Int) - 1 by omega,Nat.sub_zero,List.take_length,List.take_of_length_le (by omega)]at key;exact key
 ·rw[if_pos (by simp;omega)]
  by_cases hlt:xs.length<ys.length
  ·rw[if_pos (decide_eq_true (by omega)),cmpN,if_pos (canon_small a0e cx cy hlt)]
  ·have:=canon_small a0e cy cx (by omega);rw[if_neg (by simp;omega),cmpN,if_neg (by omega),if_pos this]
abbrev i_nat_mul.A:=Int×Int×List Int×Int×Int×List Int×Int×List Int×Int×Int×List Int×Unit
abbrev i_nat_mul.B:=Int×Int×List Int×List Int×List Int×Unit
abbrev i_nat_mul.C:=Option (List Int×Unit)
abbrev P.i_nat_mul_b3 (g2:i_nat_mul.B->i_nat_mul.C) (x4:i_nat_mul.A) (g5:i_nat_mul.A->i_nat_mul.C):i_nat_mul.C:=
 (fun(a b d e h j l:Int) (c f i m:List Int)=>if decide (a<b)then if decide (0<=a)then if decide (a<(c.length:Int))then if decide (0<=(wrap .i64 (h+a)))then if decide ((wrap .i64 (h+a))<(f.length:Int))then if decide (0<=(wrap .i64 (h+a)))then if decide ((wrap .i64 (h+a))<(f.length:Int))then g5 (wrap .i64 (a+1),b,c,Int.fdiv (wrap .u64 (d+(wrap .u64 ((wrap .u64 ((wrap .u64 e)*(wrap .u64 (c.getD a.toNat 0))))+(wrap .u64 (f.getD (0+(Int.toNat (wrap .i64 (h+a)))) 0)))))) 4294967296,e,f.set (0+(Int.toNat (wrap .i64 (h+a)))) (wrap .u32 (wrap .u64 (d+(wrap .u64 ((wrap .u64 ((wrap .u64 e)*(wrap .u64 (c.getD a.toNat 0))))+(wrap .u64 (f.getD (0+(Int.toNat (wrap .i64 (h+a)))) 0))))))),h,i,j,l,m,())else none else none else none else none else none else none else if decide (0<=(wrap .i64 (h+(i.length:Int))))then if decide ((wrap .i64 (h+(i.length:Int)))<(f.length:Int))then g2 (wrap .i64 (j+1),l,m,i,f.set (0+(Int.toNat (wrap .i64 (h+(i.length:Int))))) (wrap .u32 d),())else none else none) x4.1 x4.2.1 x4.2.2.2.1 x4.2.2.2.2.1 x4.2.2.2.2.2.2.1 x4.2.2.2.2.2.2.2.2.1 x4.2.2.2.2.2.2.2.2.2.1 x4.2.2.1 x4.2.2.2.2.2.1 x4.2.2.2.2.2.2.2.1 x4.2.2.2.2.2.2.2.2.2.2.1
abbrev P.i_nat_mul_b0 (k:Nat) (x1:i_nat_mul.B) (g2:i_nat_mul.B->i_nat_mul.C):i_nat_mul.C:=
 if decide (x1.1<x1.2.1)then if decide (0<=x1.1)then if decide (x1.1<(x1.2.2.1.length:Int))then loopP (P.i_nat_mul_b3 g2) k (0,(x1.2.2.2.1.length:Int),x1.2.2.2.1,0,x1.2.2.1.getD x1.1.toNat 0,x1.2.2.2.2.1,x1.1,x1.2.2.2.1,x1.1,x1.2.1,x1.2.2.1,())else none else none else(S.a3j (x1.2.2.2.2.1,())).bind fun y6=>some (y6.1,())
def P.i_nat_mul (k:Nat) (x:List Int×List Int×Unit):i_nat_mul.C:=
 if decide (0<=(wrap .i64 ((x.1.length:Int)+(x.2.1.length:Int))))then if decide ((wrap .i64 ((x.1.length:Int)+(x.2.1.length:Int)))<=(wrap .i64 ((x.1.length:Int)+(x.2.1.length:Int))))then if decide (((wrap .i64 ((x.1.length:Int)+(x.2.1.length:Int)))*4)<=281474976710656)then loopP (P.i_nat_mul_b0 k) k (0,(x.1.length:Int),x.1,x.2.1,List.replicate (Int.toNat (wrap .i64 ((x.1.length:Int)+(x.2.1.length:Int)))) 0,())else none else none else none
theorem im_inner (g:(Int×(Int×((List Int)×((List Int)×((List Int)×Unit)))))->(Option ((List Int)×Unit))) (F:Option ((List Int)×Unit)) {xs ys:List Int} (hx:dig B32 xs=true) (hy:dig B32 ys=true) (hlx:xs.length<=10000000000) (hly:ys.length<=10000000000) {i:Nat} (hi:i<xs.length) (K:Nat) (hK:ys.length<K)
  (hg:g (((i+1:Nat):Int),((xs.length:Int),(xs,(ys,(fd B32 (xs.length+ys.length) (a0c B32 (xs.take (i+1))*a0c B32 ys),())))))=F):
  loopP (P.i_nat_mul_b3 g) K ((0:Int),((ys.length:Int),(ys,((0:Int),(xs.getD i 0,(fd B32 (xs.length+ys.length) (a0c B32 (xs.take i)*a0c B32 ys),((i:Int),(ys,((i:Int),((xs.length:Int),(xs,())))))))))))=F:=by
 have hA:=mul_bound a0e hx hy i (by omega);have hA':=mul_bound a0e hx hy (i+1) (by omega);have gx:=a1c (B:=B32) (by decide) hx i;have gx1:xs.getD i 0<4294967296:=gx.2;have gx0:=gx.1;rw[a2h,Nat.add_mul,Nat.mul_assoc]at hg hA';generalize a0c B32 (xs.take i)*a0c B32 ys=A at*;obtain⟨x,hxe⟩:∃x:Nat,xs.getD i 0=(x:Int):=⟨(xs.getD i 0).toNat,by omega⟩
 rw[hxe,Int.toNat_natCast]at hg hA';rw[hxe]at gx1 ⊢;have hxB:x<B32:=by show x<4294967296;omega
 have hsh:=mul_shape a0e hi hA;rw[hsh];have hlw:(fd B32 ys.length (A/B32^i)).length=ys.length:=a2t _ _ _;have hdw:dig B32 (fd B32 ys.length (A/B32^i))=true:=dig_fd (by decide) _ _;have hvw:a0c B32 (fd B32 ys.length (A/B32^i))=A/B32^i:=by
  rw[dval_fd,Nat.mod_eq_of_lt];rw[Nat.div_lt_iff_lt_mul (Nat.pow_pos (by decide)),<-Nat.pow_add,Nat.add_comm];exact hA
 have hnext:=mul_next a0e (la:=xs.length) (lb:=ys.length) (R:=x*a0c B32 ys) hi hA';generalize hR:List.replicate (xs.length - 1 - i) (0:Int)=R at*;have hRl:R.length=xs.length - 1 - i:=by rw[<-hR,List.length_replicate]
 generalize hW:fd B32 ys.length (A/B32^i)=W at*;have hl0:(fd B32 i A).length=i:=a2t _ _ _;have key:=a0g (k:=K) (b:=P.i_nat_mul_b3 g) (n:=ys.length) (st:=fun k=>((k:Int),(ys.length:Int),ys,((maUp B32 x W ys k).2:Int),(x:Int),(fd B32 i A++(maUp B32 x W ys k).1)++(W.drop k++(0:Int)::R),(i:Int),ys,(i:Int),(xs.length:Int),xs,())) (F:=fun k=>F) (fun k g' hk hg'=>by
  unfold P.i_nat_mul_b3;dsimp only at hg' ⊢;refine Eq.trans ?_ hg';clear hg';obtain⟨q1,q2,q3,q4⟩:=maUp_ok (x:=x) a0e hxB hdw hy k;have q4':(maUp B32 x W ys k).2<4294967296:=q4;have gy:=a1c (B:=B32) (by decide) hy k;have gw:=a1c (B:=B32) (by decide) hdw k;have gy1:ys.getD k 0<4294967296:=gy.2;have gw1:W.getD k 0<4294967296:=gw.2;have gy0:=gy.1;have gw0:=gw.1;have hAl:(fd B32 i A++(maUp B32 x W ys k).1).length=i+k:=by rw[List.length_append,hl0,q2]
  have hlen:((fd B32 i A++(maUp B32 x W ys k).1)++(W.drop k++(0:Int)::R)).length=xs.length+ys.length:=by
   rw[List.length_append,hAl,List.length_append,List.length_drop,List.length_cons,hlw,hRl];omega
  have e1:(k:Int)<(ys.length:Int):=by omega
  have e2:(0:Int)<=(k:Int):=by omega
  have e3:(0:Int)<=((i+k:Nat):Int):=by omega
  have e4:((i+k:Nat):Int)<((xs.length+ys.length:Nat):Int):=by omega
  rw[hlen,<-Int.natCast_add i k,wr (x:=((i+k:Nat):Int)) (by omega) (by omega)];simp only[e1,e2,e3,e4,decide_true,if_true,Nat.zero_add,Int.toNat_natCast];rw[a2p (xs:=W) (i:=k) (by omega),List.cons_append,mid_get hAl];simp only[mid_set hAl];rw[maUp];dsimp only;generalize W.getD k 0=w at*;generalize ys.getD k 0=y at*;generalize maUp B32 x W ys k=p at*;obtain⟨pl,c0⟩:=p;dsimp only at*;obtain⟨Y,rfl⟩:∃Y:Nat,y=(Y:Int):=⟨y.toNat,by omega⟩
  obtain⟨w',rfl⟩:∃Y:Nat,w=(Y:Int):=⟨w.toNat,by omega⟩
  rw[Int.toNat_natCast,Int.toNat_natCast];have hxY:x*Y<=4294967295*4294967295:=Nat.mul_le_mul (by omega) (by omega);rw[wu (x:=(x:Int)) (by omega) (by omega),wu (x:=(Y:Int)) (by omega) (by omega),<-Int.natCast_mul,wu (x:=((x*Y:Nat):Int)) (by omega) (by omega),wu (x:=(w':Int)) (by omega) (by omega),<-Int.natCast_add,wu (x:=((x*Y+w':Nat):Int)) (by omega) (by omega),<-Int.natCast_add,wu (x:=((c0+(x*Y+w'):Nat):Int)) (by omega) (by omega),Int.fdiv_eq_ediv_of_nonneg _ (by omega),u32_emod,wr (x:=(k:Int)+1) (by omega) (by omega)];have e8:((c0+(x*Y+w'):Nat):Int)%4294967296=(((c0+(x*Y+w'))%B32:Nat):Int):=by
   show _=(((c0+(x*Y+w'))%4294967296:Nat):Int)
   omega
  have e9:((c0+(x*Y+w'):Nat):Int)/4294967296=(((c0+(x*Y+w'))/B32:Nat):Int):=by
   show _=(((c0+(x*Y+w'))/4294967296:Nat):Int)
   omega
  rw[e8,e9,<-List.append_assoc (fd B32 i A)];rfl) (fun g'=>by
  unfold P.i_nat_mul_b3;dsimp only;obtain⟨q1,q2,q3,q4⟩:=maUp_ok (x:=x) a0e hxB hdw hy ys.length;have q4':(maUp B32 x W ys ys.length).2<4294967296:=q4;rw[List.take_length,<-hlw,List.take_length,hlw,hvw]at q3;have hAl:(fd B32 i A++(maUp B32 x W ys ys.length).1).length=i+ys.length:=by rw[List.length_append,hl0,q2]
  have hlen:((fd B32 i A++(maUp B32 x W ys ys.length).1)++(W.drop ys.length++(0:Int)::R)).length=xs.length+ys.length:=by
   rw[List.length_append,hAl,List.length_append,List.length_drop,List.length_cons,hlw,hRl];omega
  have e1:¬((ys.length:Int)<(ys.length:Int)):=by omega
  have e3:(0:Int)<=((i+ys.length:Nat):Int):=by omega
  have e4:((i+ys.length:Nat):Int)<((xs.length+ys.length:Nat):Int):=by omega
  rw[hlen,<-Int.natCast_add i ys.length,wr (x:=((i+ys.length:Nat):Int)) (by omega) (by omega)];simp only[e1,e3,e4,decide_true,decide_false,if_true,if_false,Bool.false_eq_true,Nat.zero_add,Int.toNat_natCast];rw[List.drop_of_length_le (by omega),List.nil_append,mid_set hAl,w32 (by omega) (by omega),wr (x:=(i:Int)+1) (by omega) (by omega)];generalize maUp B32 x W ys ys.length=p at*;obtain⟨pl,c0⟩:=p;dsimp only at*;have hlt:=a1n q1;rw[q2]at hlt;have hpl:pl=fd B32 ys.length (A/B32^i+x*a0c B32 ys):=by
   have:=fd_eq a0e q1 q2 rfl;rw[this,<-q3,<-fd_mod B32 ys.length (_+_),Nat.add_mul_mod_self_left,fd_mod]
  have hc0:c0=(A/B32^i+x*a0c B32 ys)/B32^ys.length:=by
   rw[<-q3,Nat.add_mul_div_left _ _ (Nat.pow_pos (by decide)),Nat.div_eq_of_lt hlt,Nat.zero_add]
  rw[List.append_assoc _ [_],List.singleton_append,hpl,hc0,hnext];exact hg) hK
 rw[show(fd B32 i A++(maUp B32 x W ys 0).1)++(W.drop 0++(0:Int)::R)=(fd B32 i A++W)++(0:Int)::R by rw[show(maUp B32 x W ys 0).1=[]from rfl,List.append_nil,List.drop_zero,List.append_assoc]]at key;exact key
def S.a2l (x:((List Int)×((List Int)×Unit))):(Option ((List Int)×Unit)):=if dig B32 x.1=true/\dig B32 x.2.1=true/\x.1.length<=10000000000/\x.2.1.length<=10000000000 then some (nd B32 (a0c B32 x.1*a0c B32 x.2.1),())else none
theorem S.i_nat_mul_ok (x r) (h:S.a2l x=some r):∃k,P.i_nat_mul k x=some r:=by
 obtain⟨xs,ys,u⟩:=x;unfold S.a2l at h;dsimp only at h;split at h
 case isFalse=>cases h
 rename_i hc;obtain⟨dx,dy,lx,ly⟩:=hc;cases h;refine⟨xs.length+ys.length+1,?_⟩;unfold P.i_nat_mul;dsimp only;have a1:(0:Int)<=((xs.length+ys.length:Nat):Int):=by omega
 have a2:((xs.length+ys.length:Nat):Int)*4<=281474976710656:=by omega
 rw[<-Int.natCast_add,wr (x:=((xs.length+ys.length:Nat):Int)) (by omega) (by omega)];simp only[a1,a2,decide_true,if_true,Int.le_refl,Int.toNat_natCast];have key:=a0g (k:=xs.length+ys.length+1) (b:=P.i_nat_mul_b0 (xs.length+ys.length+1)) (n:=xs.length) (st:=fun i=>((i:Int),(xs.length:Int),xs,ys,fd B32 (xs.length+ys.length) (a0c B32 (xs.take i)*a0c B32 ys),())) (F:=fun i=>some (nd B32 (a0c B32 xs*a0c B32 ys),())) (fun i g hi hg=>by
  unfold P.i_nat_mul_b0;dsimp only at hg ⊢;have e1:(i:Int)<(xs.length:Int):=by omega
  have e2:(0:Int)<=(i:Int):=by omega
  simp only[e1,e2,decide_true,if_true,Int.toNat_natCast];exact im_inner g _ dx dy lx ly hi _ (by omega) hg) (fun g=>by
  unfold P.i_nat_mul_b0;dsimp only;rw[if_neg (by simp),List.take_length];unfold S.a3j;dsimp only;have hb:=mul_bound a0e dx dy xs.length (Nat.le_refl _);rw[List.take_length]at hb;rw[if_pos ⟨dig_fd (by decide) _ _,by rw[a2t];omega⟩,Option.bind_some,nd_fd a0e hb]) (by omega)
 rw[List.take_zero,show a0c B32 []*a0c B32 ys=0 by simp [a0c],fd_zero]at key;exact key
def P.i_rat_sign (k:Nat) (x:RB×Unit):Option (Int×Unit):=
 if(x.1.2.1.length:Int)==0 then some (0,())else if x.1.1 then some ((-1:Int),())else some (1,())
def S.a0w (x:(RB×Unit)):(Option (Int×Unit)):=if a2m B32 x.1.2.1=true then some (sgnQ x.1.1 (a0c B32 x.1.2.1),())else none
theorem S.i_rat_sign_ok (x r) (h:S.a0w x=some r):∃k,P.i_rat_sign k x=some r:=by
 obtain⟨⟨n,as,bs⟩,u⟩:=x;unfold S.a0w at h;dsimp only at h;split at h
 case isFalse=>cases h
 rename_i ca;cases h;refine⟨0,?_⟩;unfold P.i_rat_sign sgnQ;dsimp only;have h:=canon_nil a0e ca
 by_cases h0:as=[]
 ·rw[if_pos (h.1 h0),h0,if_pos (by rfl)]
 ·rw[if_neg (fun q=>h0 (h.2 q)),if_neg (by simpa using h0)];cases n<;>rfl
def P.i_rat_cmp (k:Nat) (x:RB×RB×Unit):Option (Int×Unit):=
 (S.a0w ((x.1.1,x.1.2.1,x.1.2.2),())).bind fun y0=>(S.a0w ((x.2.1.1,x.2.1.2.1,x.2.1.2.2),())).bind fun y1=>if y0.1 != y1.1 then(S.a0w ((x.1.1,x.1.2.1,x.1.2.2),())).bind fun y2=>(S.a0w ((x.2.1.1,x.2.1.2.1,x.2.1.2.2),())).bind fun y3=>some (wrap .i64 (y2.1 - y3.1),())else(S.a2l (x.1.2.1,x.2.1.2.2,())).bind fun y4=>(S.a2l (x.2.1.2.1,x.1.2.2,())).bind fun y5=>(S.a1j (y4.1,y5.1,())).bind fun y6=>if x.1.1 then some (wrap .i64 (0 - y6.1),())else some (y6.1,())
def S.i_rat_cmp (x:(RB×(RB×Unit))):(Option (Int×Unit)):=P.i_rat_cmp 0 x
theorem S.i_rat_cmp_ok (x r) (h:S.i_rat_cmp x=some r):∃k,P.i_rat_cmp k x=some r:=⟨0,h⟩
def P.i_rat_isOne (k:Nat) (x:RB×Unit):Option (Bool×Unit):=
 (S.a2x (1,())).bind fun y0=>(S.i_rat_cmp ((x.1.1,x.1.2.1,x.1.2.2),(y0.1.1,y0.1.2.1,y0.1.2.2),())).bind fun y1=>some (y1.1==0,())
def S.a3m (x:(RB×Unit)):(Option (Bool×Unit)):=if rok B32 40000000 x.1=true/\qok (rv B32 x.1)=true then some (isOneQ (rv B32 x.1),())else none
theorem S.i_rat_isOne_ok (x r) (h:S.a3m x=some r):∃k,P.i_rat_isOne k x=some r:=by
 obtain⟨x,u⟩:=x;unfold S.a3m at h;dsimp only at h;split at h
 case isFalse=>cases h
 rename_i hc;obtain⟨hr,hq⟩:=hc;obtain⟨n,p,q,rfl,l1,l2⟩:=rok_nd hr;rw[rv_nd a0e]at h hq;rw[qok_iff]at hq;obtain⟨h0,h1⟩:=hq;dsimp only at h0 h1;cases h;refine⟨0,?_⟩;have hw:S.a2x (1,())=some ((false,(nd B32 1,nd B32 1)),()):=by rfl
 unfold P.i_rat_isOne isOneQ;dsimp only;rw[hw,Option.bind_some];dsimp only;unfold S.i_rat_cmp P.i_rat_cmp;dsimp only;have hs:∀(n:Bool) (p:Nat) (ys:List Int),S.a0w ((n,(nd B32 p,ys)),())=some (sgnQ n p,()):=by
  intro n p ys;unfold S.a0w;dsimp only;rw[if_pos (a0l a0e _),a0i a0e]
 have o1:(nd B32 1).length<=40000000:=by rw[nd_one a0e];decide
 have em:∀p q,(nd B32 p).length<=40000000->(nd B32 q).length<=40000000->S.a2l (nd B32 p,(nd B32 q,()))=some (nd B32 (p*q),()):=by
  intro p q hp hq;unfold S.a2l;dsimp only;rw[if_pos ⟨a3r a0e _,a3r a0e _,by omega,by omega⟩,a0i a0e,a0i a0e]
 have ec:S.a1j (nd B32 (p*1),(nd B32 (1*q),()))=some (cmpN (p*1) (1*q),()):=by
  unfold S.a1j;dsimp only;rw[if_pos ⟨a0l a0e _,a0l a0e _,by rw[Nat.mul_one];omega⟩,a0i a0e,a0i a0e]
 rw[hs,Option.bind_some,hs,Option.bind_some];dsimp only;have s1:sgnQ false 1=1:=rfl;rw[s1]
 by_cases hp:p=0
 ·subst hp;rw[decide_eq_false (fun z=>by have:=z.2;omega)];rfl
 ·cases n
  ·have s2:sgnQ false p=1:=by
    unfold sgnQ;rw[if_neg hp];rfl
   rw[s2,if_neg (by decide),em _ _ l1 o1,Option.bind_some,em _ _ o1 l2,Option.bind_some];dsimp only;rw[ec,Option.bind_some];dsimp only;rw[if_neg (by decide),Option.bind_some];have hz:=a4q (a:=p*1) (b:=1*q);rw[Nat.mul_one,Nat.one_mul]at hz ⊢
   by_cases he:p=q
   ·rw[decide_eq_true ⟨rfl,he⟩,hz.2 he];rfl
   ·rw[decide_eq_false (fun z=>he z.2)];dsimp only;rw[beq_eq_false_iff_ne.2 (fun z=>he (hz.1 z))]
  ·have s2:sgnQ true p= -1:=by
    unfold sgnQ;rw[if_neg hp];rfl
   rw[s2,decide_eq_false (fun z=>by cases z.1)];rfl
def S.a4a (x:(Int×(Int×Unit))):(Option (ByteArray×Unit)):=if x.2.1=10/\0<=x.1/\x.1<18446744073709551616 then some (⟨(Go.Lib.decDigits x.1.toNat).toArray⟩,())else none
def joinB (xs:List ByteArray) (sep:ByteArray):List UInt8:=Go.Lib.join (xs.map (·.data.toList)) sep.data.toList
def S.strings_Join (x:((List ByteArray)×(ByteArray×Unit))):(Option (ByteArray×Unit)):=if x.1.length<=140737488355328/\(joinB x.1 x.2.1).length<=140737488355328 then some (⟨(joinB x.1 x.2.1).toArray⟩,())else none
def S.strings_Repeat (x:(ByteArray×(Int×Unit))):(Option (ByteArray×Unit)):=if 0<=x.2.1/\x.2.1<=1000000/\x.1.size<=1000000 then some (⟨(Go.Lib.repeatL x.1.data.toList x.2.1.toNat).toArray⟩,())else none
abbrev P.a1u (x1:Int×Int×List ByteArray×Unit) (g2:Int×Int×List ByteArray×Unit->Option (Unit×List ByteArray×Unit)):Option (Unit×List ByteArray×Unit):=
 (fun(a b:Int) (c:List ByteArray)=>if decide (a<b)then if decide (0<=b)then if decide (b<(c.length:Int))then if decide (0<=a)then if decide (a<(c.length:Int))then if decide (0<=a)then if decide (a<(c.length:Int))then if decide (0<=b)then if decide (b<(List.length (c.set (0+a.toNat) (c.getD (0+b.toNat) (bs []))):Int))then g2 (wrap .i64 (a+1),wrap .i64 (b - 1),List.set (c.set (0+a.toNat) (c.getD (0+b.toNat) (bs []))) (0+b.toNat) (c.getD (0+a.toNat) (bs [])),())else none else none else none else none else none else none else none else none else some ((),c,())) x1.1 x1.2.1 x1.2.2.1
def P.a2y (k:Nat) (x:List ByteArray×Unit):Option (Unit×List ByteArray×Unit):=
 loopP P.a1u k (0,wrap .i64 ((x.1.length:Int) - 1),x.1,())
def rvd (xs:List ByteArray) (t:Nat):List ByteArray:=(List.range xs.length).map fun p=>if p<t\/xs.length - t<=p then xs.getD (xs.length - 1 - p) (bs [])else xs.getD p (bs [])
theorem rvd_len (xs:List ByteArray) (t:Nat):(rvd xs t).length=xs.length:=by simp [rvd]
theorem rvd_get (xs:List ByteArray) (t p:Nat) (h:p<xs.length):(rvd xs t).getD p (bs [])=if p<t\/xs.length - t<=p then xs.getD (xs.length - 1 - p) (bs [])else xs.getD p (bs []):=by
 unfold rvd;rw[List.getD_eq_getElem?_getD,List.getElem?_map,List.getElem?_range h];rfl
theorem getD_ext {xs ys:List ByteArray} (hl:xs.length=ys.length) (h:∀p,p<xs.length->xs.getD p (bs [])=ys.getD p (bs [])):xs=ys:=by
 apply List.ext_getElem hl;intro i h1 h2;have:=h i h1;simpa [h1,h2]using this
theorem rvd_end (xs:List ByteArray):rvd xs (xs.length/2)=xs.reverse:=by
 apply getD_ext (by rw[rvd_len,List.length_reverse]);intro p hp;rw[rvd_len]at hp;rw[rvd_get _ _ _ hp];have e:xs.reverse.getD p (bs [])=xs.getD (xs.length - 1 - p) (bs []):=by
  rw[List.getD_eq_getElem?_getD,List.getElem?_reverse hp,<-List.getD_eq_getElem?_getD]
 rw[e];split
 ·rfl
 ·rename_i hq;have:xs.length - 1 - p=p:=by omega
  rw[this]
theorem getD_set' (l:List ByteArray) (i p:Nat) (v:ByteArray) (h:p<l.length):(l.set i v).getD p (bs [])=if p=i then v else l.getD p (bs []):=by
 rw[List.getD_eq_getElem?_getD,List.getElem?_set]
 by_cases e:i=p
 ·subst e;simp [h]
 ·rw[if_neg e,if_neg (fun q=>e q.symm),<-List.getD_eq_getElem?_getD]
theorem rvd_step (xs:List ByteArray) (t:Nat) (ht:t<xs.length/2):((rvd xs t).set t ((rvd xs t).getD (xs.length - 1 - t) (bs []))).set (xs.length - 1 - t) ((rvd xs t).getD t (bs []))=rvd xs (t+1):=by
 apply getD_ext (by simp [rvd_len]);intro p hp;simp only[List.length_set,rvd_len]at hp;rw[getD_set' _ _ _ _ (by simp [rvd_len];exact hp),getD_set' _ _ _ _ (by rw[rvd_len];exact hp),rvd_get _ _ _ hp,rvd_get _ _ _ hp,rvd_get _ _ _ (show t<xs.length by omega),rvd_get _ _ _ (show xs.length - 1 - t<xs.length by omega)];rw[if_neg (show ¬(t<t\/xs.length - t<=t) by omega),if_neg (show ¬(xs.length - 1 - t<t\/xs.length - t<=xs.length - 1 - t) by omega)]
 by_cases h1:p=xs.length - 1 - t
 ·rw[if_pos h1,if_pos (by omega)];congr 1;omega
 ·rw[if_neg h1]
  by_cases h2:p=t
  ·rw[if_pos h2,if_pos (by omega)];congr 1;omega
  ·rw[if_neg h2]
   by_cases h3:p<t\/xs.length - t<=p
   ·rw[if_pos h3,if_pos (by omega)]
   ·rw[if_neg h3,if_neg (by omega)]
def S.a0z (x:((List ByteArray)×Unit)):(Option (Unit×((List ByteArray)×Unit))):=if x.1.length<=1000000000 then some ((),(x.1.reverse,()))else none
theorem S.slices_Reverse__string_string_ok (x r) (h:S.a0z x=some r):∃k,P.a2y k x=some r:=by
 obtain⟨xs,u⟩:=x;unfold S.a0z at h;dsimp only at h;split at h
 case isFalse=>cases h
 rename_i hl;cases h;refine⟨xs.length/2+1,?_⟩;unfold P.a2y;dsimp only;rw[wr (by omega) (by omega)];have key:=a0g (k:=xs.length/2+1) (b:=P.a1u) (n:=xs.length/2) (st:=fun t=>((t:Int),(xs.length:Int) - 1 - (t:Int),rvd xs t,())) (F:=fun t=>some ((),(xs.reverse,()))) (fun t g ht hg=>by
  unfold P.a1u;dsimp only at hg ⊢;have e5:(xs.length:Int) - 1 - (t:Int)=((xs.length - 1 - t:Nat):Int):=by omega
  rw[e5];have e1:(t:Int)<((xs.length - 1 - t:Nat):Int):=by omega
  have e2:(0:Int)<=((xs.length - 1 - t:Nat):Int):=by omega
  have e3:((xs.length - 1 - t:Nat):Int)<(xs.length:Int):=by omega
  have e4:(0:Int)<=(t:Int):=by omega
  have e6:(t:Int)<(xs.length:Int):=by omega
  simp only[rvd_len,List.length_set,e1,e2,e3,e4,e6,decide_true,if_true,Int.toNat_natCast,Nat.zero_add];rw[rvd_step xs t ht,wr (by omega) (by omega),wr (by omega) (by omega),<-hg];congr 1
  all_goals (simp only[Prod.mk.injEq];and_intros<;>first|rfl|omega|trivial)) (fun g=>by
  unfold P.a1u;dsimp only;rw[if_neg (by simp;omega),rvd_end]) (by omega)
 have e0:rvd xs 0=xs:=by
  apply getD_ext (rvd_len _ _);intro p hp;rw[rvd_len]at hp;rw[rvd_get _ _ _ hp,if_neg (by omega)]
 rw[show(xs.length:Int) - 1 - ((0:Nat):Int)=(xs.length:Int) - 1 by omega,e0]at key;exact key
abbrev P.i_nat_divSmall_b0 (x1:Int×Int×List Int×List Int×Int×Unit) (g2:Int×Int×List Int×List Int×Int×Unit->Option ((List Int×Int)×Unit)):Option ((List Int×Int)×Unit):=
 (fun(a b e:Int) (c d:List Int)=>if decide (a>=0)then if decide (0<=a)then if decide (a<(c.length:Int))then if decide ((wrap .u64 e)=0)then none else if decide (0<=a)then if decide (a<(d.length:Int))then if decide ((wrap .u64 e)=0)then none else g2 (wrap .i64 (a - 1),Int.tmod (wrap .u64 ((wrap .u64 (b*4294967296))+(wrap .u64 (c.getD a.toNat 0)))) (wrap .u64 e),c,d.set (0+a.toNat) (wrap .u32 (wrap .u64 (Int.tdiv (wrap .u64 ((wrap .u64 (b*4294967296))+(wrap .u64 (c.getD a.toNat 0)))) (wrap .u64 e)))),e,())else none else none else none else none else(S.a3j (d,())).bind fun y3=>some ((y3.1,wrap .u32 b),())) x1.1 x1.2.1 x1.2.2.2.2.1 x1.2.2.1 x1.2.2.2.1
def P.i_nat_divSmall (k:Nat) (x:List Int×Int×Unit):Option ((List Int×Int)×Unit):=
 if decide (0<=(x.1.length:Int))then if decide ((x.1.length:Int)<=(x.1.length:Int))then if decide (((x.1.length:Int)*4)<=281474976710656)then loopP P.i_nat_divSmall_b0 k (wrap .i64 ((x.1.length:Int) - 1),0,x.1,List.replicate (Int.toNat (x.1.length:Int)) 0,x.2.1,())else none else none else none
def S.a2n (x:((List Int)×(Int×Unit))):(Option (((List Int)×Int)×Unit)):=if dig B32 x.1=true/\0<x.2.1/\x.2.1<4294967296/\x.1.length<=1000000000000 then some ((nd B32 (a0c B32 x.1/x.2.1.toNat),((a0c B32 x.1%x.2.1.toNat:Nat):Int)),())else none
theorem S.i_nat_divSmall_ok (x r) (h:S.a2n x=some r):∃k,P.i_nat_divSmall k x=some r:=by
 obtain⟨xs,b,u⟩:=x;unfold S.a2n at h;dsimp only at h;split at h
 case isFalse=>cases h
 rename_i hc;obtain⟨hd,hb0,hb1,hl⟩:=hc;cases h;refine⟨xs.length+1,?_⟩;unfold P.i_nat_divSmall;dsimp only;have a1:(0:Int)<=(xs.length:Int):=by omega
 have a2:(xs.length:Int)<=(xs.length:Int):=by omega
 have a3:(xs.length:Int)*4<=281474976710656:=by omega
 simp only[a1,a2,a3,decide_true,if_true];rw[wr (by omega) (by omega),Int.toNat_natCast];have hdr:∀m,dig B32 (xs.drop m)=true:=by
  intro m;have:=List.take_append_drop m xs;have hd':=hd;rw[<-this,a1m,Bool.and_eq_true]at hd';exact hd'.2
 have hbN:0<b.toNat:=by omega
 have key:=a0g (k:=xs.length+1) (b:=P.i_nat_divSmall_b0) (n:=xs.length) (st:=fun j=>((xs.length:Int) - 1 - (j:Int),((qdiv B32 b.toNat (xs.drop (xs.length - j))).2:Int),xs,List.replicate (xs.length - j) (0:Int)++(qdiv B32 b.toNat (xs.drop (xs.length - j))).1,b,())) (F:=fun j=>some ((nd B32 (a0c B32 xs/b.toNat),((a0c B32 xs%b.toNat:Nat):Int)),())) (fun j g hj hg=>by
  unfold P.i_nat_divSmall_b0;dsimp only at hg ⊢;obtain⟨q1,q2,q3,q4⟩:=qdiv_ok B32 b.toNat hbN (xs.drop (xs.length - j)) (hdr _);have hi:xs.length - (j+1)<xs.length:=by omega
  have e5:(xs.length:Int) - 1 - (j:Int)=((xs.length - (j+1):Nat):Int):=by omega
  have e6:xs.drop (xs.length - (j+1))=xs[xs.length - (j+1)]::xs.drop (xs.length - j):=by
   rw[List.drop_eq_getElem_cons hi];congr 2;omega
  have e7:xs.length - j=(xs.length - (j+1))+1:=by omega
  have hlen:(List.replicate (xs.length - j) (0:Int)++(qdiv B32 b.toNat (xs.drop (xs.length - j))).1).length=xs.length:=by
   rw[List.length_append,List.length_replicate,q2,List.length_drop];omega
  have hx:=dig_get hd hi;have hx1:xs[xs.length - (j+1)]<4294967296:=hx.2;have hx0:=hx.1;have hm:(qdiv B32 b.toNat (xs.drop (xs.length - j))).2<b.toNat:=by rw[q4];exact Nat.mod_lt _ hbN
  rw[e6]at hg;rw[hlen,e5,a0n xs _ _ hi];have a1:((xs.length - (j+1):Nat):Int)>=0:=by omega
  have a2:(0:Int)<=((xs.length - (j+1):Nat):Int):=by omega
  have a3:((xs.length - (j+1):Nat):Int)<(xs.length:Int):=by omega
  rw[wu (x:=b) (by omega) (by omega)];have a4:¬(b=0):=by omega
  simp only[a1,a3,a4,decide_true,decide_false,if_true,if_false,Bool.false_eq_true];generalize hR:(qdiv B32 b.toNat (xs.drop (xs.length - j))).2=R at*;generalize hX:xs[xs.length - (j+1)]=X at*;have hRX:(R:Int)*4294967296+X<b*4294967296:=by omega
  rw[wu (x:=(R:Int)*4294967296) (by omega) (by omega),wu (x:=X) (by omega) (by omega),wu (x:=(R:Int)*4294967296+X) (by omega) (by omega)];have eT:Int.tdiv ((R:Int)*4294967296+X) b=(((R*B32+X.toNat)/b.toNat:Nat):Int):=by
   rw[Int.tdiv_eq_ediv_of_nonneg (by omega)];have:(R:Int)*4294967296+X=((R*4294967296+X.toNat:Nat):Int):=by omega
   rw[this];have hb:b=((b.toNat:Nat):Int):=by omega
   conv=>lhs;rw[hb]
   exact(Int.natCast_ediv _ _).symm
  have eM:Int.tmod ((R:Int)*4294967296+X) b=(((R*B32+X.toNat)%b.toNat:Nat):Int):=by
   rw[Int.tmod_eq_emod_of_nonneg (by omega)];have:(R:Int)*4294967296+X=((R*4294967296+X.toNat:Nat):Int):=by omega
   rw[this];have hb:b=((b.toNat:Nat):Int):=by omega
   conv=>lhs;rw[hb]
   exact(Int.natCast_emod _ _).symm
  have hQ:(R*B32+X.toNat)/b.toNat<B32:=(Nat.div_lt_iff_lt_mul hbN).2 (by
   show R*4294967296+X.toNat<4294967296*b.toNat;omega)
  have hQ':(R*B32+X.toNat)/b.toNat<4294967296:=hQ;have z0:(0:Int)<=(((R*B32+X.toNat)/b.toNat:Nat):Int):=Int.natCast_nonneg _;have z1:(((R*B32+X.toNat)/b.toNat:Nat):Int)<4294967296:=Int.ofNat_lt.2 hQ';rw[eT,eM,wu z0 (Int.lt_trans z1 (by decide)),w32 z0 z1,wr (x:=((xs.length - (j+1):Nat):Int) - 1) (by omega) (by omega),Nat.zero_add,Int.toNat_natCast];have hset:∀(Q:List Int) (v:Int),(List.replicate (xs.length - j) (0:Int)++Q).set (xs.length - (j+1)) v=List.replicate (xs.length - (j+1)) 0++v::Q:=by
   intro Q v;rw[e7];exact set_back _ _ _
  rw[hset,<-hg];congr 1;simp only[Prod.mk.injEq,qdiv];rw[hR]
  and_intros<;>first|rfl|omega|trivial) (fun g=>by
  unfold P.i_nat_divSmall_b0;dsimp only;obtain⟨q1,q2,q3,q4⟩:=qdiv_ok B32 b.toNat hbN xs hd;rw[if_neg (by simp;omega),Nat.sub_self,List.drop_zero,List.replicate_zero,List.nil_append,trim_i _ q1 (by omega),Option.bind_some,q3,q4];have hm:=Nat.mod_lt (a0c B32 xs) hbN;rw[w32 (by omega) (by omega)]) (by omega)
 rw[show(xs.length:Int) - 1 - ((0:Nat):Int)=(xs.length:Int) - 1 by omega,Nat.sub_zero,List.drop_length]at key;simpa [qdiv]using key
abbrev P.i_nat_text_b0 (x1:List Int×List ByteArray×Unit) (g2:List Int×List ByteArray×Unit->Option (ByteArray×Unit)):Option (ByteArray×Unit):=
 if decide ((x1.1.length:Int)>0)then(S.a2n (x1.1,1000000000,())).bind fun y3=>(S.a4a (wrap .u64 y3.1.2,10,())).bind fun y4=>if decide ((y3.1.1.length:Int)>0)then(S.strings_Repeat (bs [48],wrap .i64 (9 - (y4.1.size:Int)),())).bind fun y5=>if decide ((y5.1.size+y4.1.size)<=9223372036854775807)then if decide (((x1.2.1.length+(List.length [y5.1++y4.1]))*16)<=140737488355328)then g2 (y3.1.1,x1.2.1++[y5.1++y4.1],())else none else none else if decide (((x1.2.1.length+(List.length [y4.1]))*16)<=140737488355328)then g2 (y3.1.1,x1.2.1++[y4.1],())else none else(S.a0z (x1.2.1,())).bind fun y6=>(S.strings_Join (splice x1.2.1 y6.2.1 0,bs [],())).bind fun y7=>some (y7.1,())
def P.i_nat_text (k:Nat) (x:List Int×Unit):Option (ByteArray×Unit):=
 if(x.1.length:Int)==0 then some (bs [48],())else loopP P.i_nat_text_b0 k (x.1,[],())
def mkB (l:List UInt8):ByteArray:=⟨l.toArray⟩
theorem join_empty (xs:List (List UInt8)):Go.Lib.join xs []=xs.flatten:=by
 cases xs with
 |nil=>rfl
 |cons x r=>
  rw[Go.Lib.join_cons,List.flatten_cons];congr 1;unfold Go.Lib.joinTail;simp
theorem it_loop (n:Nat):∀(acc:List ByteArray) (k:Nat),n<k->(nd B32 n).length<=40000000->acc.length+(a3s n).length<=1000000000->
  loopP P.i_nat_text_b0 k (nd B32 n,(acc,()))=Option.bind (S.a0z (acc++(a3s n).map mkB,())) (fun y6=>Option.bind (S.strings_Join (Go.Cm.splice (acc++(a3s n).map mkB) y6.2.1 0,(bs [],()))) (fun y7=>some (y7.1,()))):=by
 induction n using Nat.strongRecOn with
 |ind n ih=>
  intro acc k hk hl hacc;obtain⟨k,rfl⟩:∃j,k=j+1:=⟨k - 1,by omega⟩
  rw[a0k];unfold P.i_nat_text_b0;dsimp only
  by_cases hn:n=0
  ·subst hn;rw[a1t a0e,textParts_zero,if_neg (by simp),List.map_nil,List.append_nil]
  ·have hpos:((nd B32 n).length:Int)>0:=by
    rw[nd_pos a0e hn,List.length_cons];omega
   rw[if_pos (decide_eq_true hpos)];have sd:S.a2n (nd B32 n,(1000000000,()))=some ((nd B32 (n/1000000000),((n%1000000000:Nat):Int)),()):=by
    unfold S.a2n;dsimp only;rw[if_pos ⟨a3r a0e _,by omega,by omega,by omega⟩,a0i a0e];rfl
   rw[sd,Option.bind_some];dsimp only;have hm:n%1000000000<1000000000:=Nat.mod_lt _ (by decide);have sf:S.a4a (IntKind.wrap .u64 ((n%1000000000:Nat):Int),(10,()))=some (mkB (Go.Lib.decDigits (n%1000000000)),()):=by
    rw[wu (by omega) (by omega)];unfold S.a4a;dsimp only;rw[if_pos ⟨rfl,by omega,by omega⟩,Int.toNat_natCast];rfl
   rw[sf,Option.bind_some];dsimp only;obtain⟨p1,p2⟩:=dec_pad 9 (n%1000000000) (by decide) (by rw[show(10:Nat)^9=1000000000 by decide];exact hm);have hsz:(mkB (Go.Lib.decDigits (n%1000000000))).size=(Go.Lib.decDigits (n%1000000000)).length:=ba_sz _;have hsh:(nd B32 (n/1000000000)).length<=40000000:=by
    refine Nat.le_trans ?_ hl;rw[a4c a0e];exact Nat.lt_of_le_of_lt (Nat.div_le_self _ _) ((a4c a0e n _).1 (Nat.le_refl _))
   by_cases h1:n/1000000000=0
   ·rw[textParts_one hn h1,List.length_singleton]at hacc;have hmn:n%1000000000=n:=by omega
    have hc:(acc.length+ [mkB (Go.Lib.decDigits n)].length)*16<=140737488355328:=by
     rw[List.length_singleton];omega
    have hz:¬(((nd B32 0).length:Int)>0):=by rw[a1t a0e];simp
    have hi:=ih 0 (by omega) (acc++[mkB (Go.Lib.decDigits n)]) k (by omega) (by rw[a1t a0e];simp) (by rw[textParts_zero];simp;omega);rw[h1,hmn,if_neg (by simpa using hz),if_pos (decide_eq_true hc),hi,textParts_zero,textParts_one hn h1,List.map_nil,List.append_nil];rfl
   ·rw[textParts_more h1,List.length_cons]at hacc;have hz:((nd B32 (n/1000000000)).length:Int)>0:=by
     rw[nd_pos a0e h1,List.length_cons];omega
    have sr:S.strings_Repeat (bs [48],(IntKind.wrap .i64 (9 - (((mkB (Go.Lib.decDigits (n%1000000000))).size:Nat):Int)),()))=some (mkB (List.replicate (9 - (Go.Lib.decDigits (n%1000000000)).length) 48),()):=by
     rw[hsz,wr (by omega) (by omega)];unfold S.strings_Repeat;dsimp only;have h48:(bs [48]).data.toList=[48]:=rfl;rw[if_pos ⟨by omega,by omega,by decide⟩,h48,repeatL_one,show((9:Int) - ((Go.Lib.decDigits (n%1000000000)).length:Int)).toNat=9 - (Go.Lib.decDigits (n%1000000000)).length by omega];rfl
    rw[if_pos (decide_eq_true hz),sr,Option.bind_some];dsimp only;have hsum:(mkB (List.replicate (9 - (Go.Lib.decDigits (n%1000000000)).length) 48)).size+(mkB (Go.Lib.decDigits (n%1000000000))).size<=9223372036854775807:=by
     rw[hsz,show(mkB (List.replicate (9 - (Go.Lib.decDigits (n%1000000000)).length) 48)).size=_ from ba_sz _,List.length_replicate];omega
    have happ:mkB (List.replicate (9 - (Go.Lib.decDigits (n%1000000000)).length) 48)++mkB (Go.Lib.decDigits (n%1000000000))=mkB (decPad 9 (n%1000000000)):=by
     rw[<-p1];exact ba_app _ _
    have hc:(acc.length+ [mkB (decPad 9 (n%1000000000))].length)*16<=140737488355328:=by
     rw[List.length_singleton];omega
    have hi:=ih (n/1000000000) (by omega) (acc++[mkB (decPad 9 (n%1000000000))]) k (by omega) hsh (by simp;omega);rw[if_pos (decide_eq_true hsum),happ,if_pos (decide_eq_true hc),hi,textParts_more h1,List.map_cons,List.append_assoc];rfl
def S.i_nat_text (x:((List Int)×Unit)):(Option (ByteArray×Unit)):=if a2m B32 x.1=true/\x.1.length<=40000000 then some (⟨(Go.Lib.decDigits (a0c B32 x.1)).toArray⟩,())else none
theorem S.i_nat_text_ok (x r) (h:S.i_nat_text x=some r):∃k,P.i_nat_text k x=some r:=by
 obtain⟨xs,u⟩:=x;unfold S.i_nat_text at h;dsimp only at h;split at h
 case isFalse=>cases h
 rename_i hc;obtain⟨ca,la⟩:=hc;cases h;refine⟨a0c B32 xs+1,?_⟩;unfold P.i_nat_text;dsimp only
 by_cases he:xs=[]
 ·subst he;rw[if_pos (by rfl),show a0c B32 []=0 from rfl,dec_small (by decide)];rfl
 ·have hpos:0<xs.length:=List.length_pos_iff.2 he;have h0:a0c B32 xs≠0:=by
   intro q;have:=a1e ca;rw[q,a1t a0e]at this;exact he this.symm
  have hb:a0c B32 xs<B32^xs.length:=a1n (a1p ca);have hb2:a0c B32 xs<(10^10)^xs.length:=Nat.lt_of_lt_of_le hb (Nat.pow_le_pow_left (by decide) _);rw[<-Nat.pow_mul]at hb2;have hlen:(Go.Lib.decDigits (a0c B32 xs)).length<=10*xs.length:=dec_len (by omega) hb2;have hb3:a0c B32 xs<B10^(2*xs.length):=by
   refine Nat.lt_of_lt_of_le hb ?_;rw[Nat.pow_mul];exact Nat.pow_le_pow_left (by decide) _
  have hparts:(a3s (a0c B32 xs)).length<=2*xs.length:=by
   rw[textParts_len,a4c a0d];exact hb3
  rw[if_neg (by simp;exact he)];have key:=it_loop (a0c B32 xs) [] (a0c B32 xs+1) (by omega) (by rw[a1e ca];omega) (by simp;omega);rw[a1e ca,List.nil_append]at key;rw[key];have hall:=textParts_all h0;generalize a3s (a0c B32 xs)=ps at*;unfold S.a0z S.strings_Join;dsimp only;have hj:joinB (Go.Cm.splice (ps.map mkB) (ps.map mkB).reverse 0) (bs [])=Go.Lib.decDigits (a0c B32 xs):=by
   rw[splice_all (by simp)];unfold joinB;rw[show(bs []).data.toList=[]from rfl,join_empty,<-List.map_reverse,List.map_map];rw[show(fun x:ByteArray=>x.data.toList) ∘ mkB=id by funext l;simp [mkB],List.map_id];exact hall
  rw[if_pos (by simp;omega),Option.bind_some];dsimp only;rw[hj,if_pos ⟨by rw[splice_all (by simp)];simp;omega,by omega⟩,Option.bind_some]
def P.i_rat_text (k:Nat) (x:RB×Unit):Option ((ByteArray×Bool)×Unit):=
 (S.i_nat_text (x.1.2.1,())).bind fun y0=>(S.i_nat_text (x.1.2.2,())).bind fun y1=>if x.1.1 then if decide ((1+y0.1.size)<=9223372036854775807)then if ! ((ByteArray.toList y1.1)==(ByteArray.toList (bs [49])))then if decide ((1+y1.1.size)<=9223372036854775807)then if decide (((ByteArray.size ((bs [45])++y0.1))+(ByteArray.size ((bs [47])++y1.1)))<=9223372036854775807)then if decide ((y0.1.size:Int)<=200)then some ((((bs [45])++y0.1)++((bs [47])++y1.1),decide ((y1.1.size:Int)<=200)),())else some ((((bs [45])++y0.1)++((bs [47])++y1.1),false),())else none else none else if decide ((y0.1.size:Int)<=200)then some (((bs [45])++y0.1,decide ((y1.1.size:Int)<=200)),())else some (((bs [45])++y0.1,false),())else none else if ! ((ByteArray.toList y1.1)==(ByteArray.toList (bs [49])))then if decide ((1+y1.1.size)<=9223372036854775807)then if decide ((y0.1.size+(ByteArray.size ((bs [47])++y1.1)))<=9223372036854775807)then if decide ((y0.1.size:Int)<=200)then some ((y0.1++((bs [47])++y1.1),decide ((y1.1.size:Int)<=200)),())else some ((y0.1++((bs [47])++y1.1),false),())else none else none else if decide ((y0.1.size:Int)<=200)then some ((y0.1,decide ((y1.1.size:Int)<=200)),())else some ((y0.1,false),())
def S.i_rat_text (x:(RB×Unit)):(Option ((ByteArray×Bool)×Unit)):=if rok B32 40000000 x.1=true then some ((⟨(ratTx (rv B32 x.1)).toArray⟩,fitN (rv B32 x.1)),())else none
theorem S.i_rat_text_ok (x r) (h:S.i_rat_text x=some r):∃k,P.i_rat_text k x=some r:=by
 obtain⟨⟨neg,as,bs'⟩,u⟩:=x;unfold S.i_rat_text at h;dsimp only at h;split at h
 case isFalse=>cases h
 rename_i hc;rw[rok_iff]at hc;obtain⟨ca,cb,la,lb⟩:=hc;dsimp only at ca cb la lb;cases h;refine⟨0,?_⟩;unfold P.i_rat_text;dsimp only;have e1:∀xs,a2m B32 xs=true->xs.length<=40000000->S.i_nat_text (xs,())=some (⟨(Go.Lib.decDigits (a0c B32 xs)).toArray⟩,()):=by
  intro xs cx lx;unfold S.i_nat_text;exact if_pos ⟨cx,lx⟩
 rw[e1 as ca la,Option.bind_some,e1 bs' cb lb,Option.bind_some];dsimp only;have l1:=canon_dec (show B32<=10^10 by decide) ca;have l2:=canon_dec (show B32<=10^10 by decide) cb;unfold rv ratTx fitN;dsimp only;have hd1:=dec_one (a0c B32 bs');generalize Go.Lib.decDigits (a0c B32 as)=t1 at*;generalize Go.Lib.decDigits (a0c B32 bs')=t2 at*;rw[ByteArray.toList_eq,ByteArray.toList_eq,show bs [49]=⟨([49]:List UInt8).toArray⟩from rfl,show bs [45]=⟨([45]:List UInt8).toArray⟩from rfl,show bs [47]=⟨([47]:List UInt8).toArray⟩from rfl];rw[ba_app,ba_app,ba_app,ba_app,ba_sz,ba_sz,ba_sz,ba_sz];have c1:(1+t1.length<=9223372036854775807):=by omega
 have c2:(1+t2.length<=9223372036854775807):=by omega
 have c3:([45]++t1).length+([47]++t2).length<=9223372036854775807:=by simp;omega
 have c4:t1.length+([47]++t2).length<=9223372036854775807:=by simp;omega
 simp only[c1,c2,c3,c4,decide_true,if_true];have d1:∀t:List UInt8,decide (((t.length:Nat):Int)<=200)=decide (t.length<=200):=by
  intro t;rw[decide_eq_decide];omega
 rw[d1,d1];have d2:((!(t2== [49]))=true)↔¬a0c B32 bs'=1:=by
  rw[<-hd1];simp
 by_cases hq:a0c B32 bs'=1
 ·have n2:¬((!(t2== [49]))=true):=by rw[d2];exact fun q=>q hq
  cases neg<;>simp only[n2,hq,if_true,if_false,Bool.false_eq_true,List.append_nil,List.nil_append]<;>cases decide (t1.length<=200)<;>simp
 ·have n2:((!(t2== [49]))=true):=d2.2 hq;cases neg<;>simp only[n2,hq,if_true,if_false,Bool.false_eq_true,List.nil_append]<;>cases decide (t1.length<=200)<;>simp
abbrev i_toldList.A:=Option ((List ByteArray×Bool)×Unit)
abbrev P.i_toldList_b0 (x1:Int×Int×List RB×List ByteArray×Unit) (g2:Int×Int×List RB×List ByteArray×Unit->i_toldList.A):i_toldList.A:=
 if decide (x1.1<x1.2.1)then if decide (0<=x1.1)then if decide (x1.1<(x1.2.2.1.length:Int))then(S.i_rat_text (((x1.2.2.1.getD x1.1.toNat (false,[],[])).1,(x1.2.2.1.getD x1.1.toNat (false,[],[])).2.1,(x1.2.2.1.getD x1.1.toNat (false,[],[])).2.2),())).bind fun y3=>if !y3.1.2 then some (([],false),())else if decide (((x1.2.2.2.1.length+(List.length [y3.1.1]))*16)<=140737488355328)then g2 (wrap .i64 (x1.1+1),x1.2.1,x1.2.2.1,x1.2.2.2.1++[y3.1.1],())else none else none else none else some ((x1.2.2.2.1,true),())
def P.i_toldList (k:Nat) (x:List RB×Unit):i_toldList.A:=
 loopP P.i_toldList_b0 k (0,(x.1.length:Int),x.1,[],())
def S.i_toldList (x:((List RB)×Unit)):(Option (((List ByteArray)×Bool)×Unit)):=if x.1.all (rok B32 40000000)=true/\x.1.length<=1000000 then some (giveL (x.1.map (rv B32)),())else none
theorem S.i_toldList_ok (x r) (h:S.i_toldList x=some r):∃k,P.i_toldList k x=some r:=by
 obtain⟨xs,u⟩:=x;unfold S.i_toldList at h;dsimp only at h;split at h
 case isFalse=>cases h
 rename_i hc;cases h;obtain⟨qs,rfl⟩:∃qs:List Q3,xs=qs.map (rp B32):=⟨xs.map (rv B32),by
  rw[List.map_map];have:∀ys:List (Bool×(List Int×List Int)),ys.all (rok B32 40000000)=true->ys.map (rp B32 ∘ rv B32)=ys:=by
   intro ys
   induction ys with
   |nil=>intro _;rfl
   |cons y ys ih=>
    intro hy;rw[List.all_cons,Bool.and_eq_true]at hy;rw[List.map_cons,ih hy.2];show rp B32 (rv B32 y)::ys=_;rw[rp_rv hy.1]
  exact(this xs hc.1).symm⟩
 have hlen:=hc.2;rw[List.length_map]at hlen;refine⟨qs.length+1,?_⟩;unfold P.i_toldList giveL;dsimp only;have key:=a0g (k:=qs.length+1) (b:=P.i_toldList_b0) (n:=qs.length) (st:=fun i=>((i:Int),(qs.length:Int),qs.map (rp B32),(qs.take i).map (fun r:Q3=>(⟨(ratTx r).toArray⟩:ByteArray)),())) (F:=fun i=>some (if(qs.drop i).all fitN=true then(qs.map (fun r:Q3=>(⟨(ratTx r).toArray⟩:ByteArray)),true)else([],false),())) (fun i g hi hg'=>by
  unfold P.i_toldList_b0;dsimp only at hg' ⊢;have e1:(i:Int)<(qs.length:Int):=by omega
  have e2:(0:Int)<=(i:Int):=by omega
  have e3:(i:Int)<((qs.map (rp B32)).length:Int):=by rw[List.length_map];omega
  simp only[e1,e2,e3,decide_true,if_true];rw[a0n (qs.map (rp B32)) i _ (by rw[List.length_map];exact hi),List.getElem_map];have ht:S.i_rat_text (rp B32 qs[i],())=some ((⟨(ratTx qs[i]).toArray⟩,fitN qs[i]),()):=by
   unfold S.i_rat_text;dsimp only;rw[if_pos (by have:=List.all_eq_true.1 hc.1 _ (List.mem_map.2 ⟨qs[i],List.getElem_mem hi,rfl⟩);exact this),a3l a0e]
  show Option.bind (S.i_rat_text (rp B32 qs[i],())) _=_;rw[ht,Option.bind_some,List.drop_eq_getElem_cons hi,List.all_cons];dsimp only;cases hf:fitN qs[i]
  ·rw[if_pos (by decide),Bool.false_and,if_neg (by decide)]
  ·skip
   skip
   have e4:(((qs.take i).map (fun r:Q3=>(⟨(ratTx r).toArray⟩:ByteArray))).length+1)*16<=140737488355328:=by
    rw[List.length_map,List.length_take];omega
   rw[if_neg (by simp),wr (by omega) (by omega),Bool.true_and,<-hg'];simp only[List.length_cons,List.length_nil,Nat.zero_add];rw[if_pos (decide_eq_true e4),List.take_add_one,List.getElem?_eq_getElem hi,Option.toList_some,List.map_append];rfl) (fun g=>by
  unfold P.i_toldList_b0;dsimp only;rw[if_neg (by simp),List.take_length,List.drop_length];rfl) (by omega)
 rw[map_rv a0e,List.length_map];refine key.trans ?_;rw[List.drop_zero]
 by_cases ha:qs.all fitN=true
 ·rw[if_pos ha,if_pos ha];congr 3;refine List.map_congr_left fun r hr=> ?_
  unfold giveN;rw[if_pos (List.all_eq_true.1 ha r hr)]
 ·rw[if_neg ha,if_neg ha]
def P.math_bits_Mul64 (k:Nat) (x:Int×Int×Unit):Option ((Int×Int)×Unit):=
 some ((wrap .u64 ((wrap .u64 ((wrap .u64 ((Int.fdiv x.1 4294967296)*(Int.fdiv x.2.1 4294967296)))+(Int.fdiv (wrap .u64 ((wrap .u64 ((Int.fdiv x.1 4294967296)*(wrap .u64 ((BitVec.toNat ((BitVec.ofInt 64 x.2.1)&&& (BitVec.ofInt 64 4294967295)):Nat):Int))))+(Int.fdiv (wrap .u64 ((wrap .u64 ((BitVec.toNat ((BitVec.ofInt 64 x.1)&&& (BitVec.ofInt 64 4294967295)):Nat):Int))*(wrap .u64 ((BitVec.toNat ((BitVec.ofInt 64 x.2.1)&&& (BitVec.ofInt 64 4294967295)):Nat):Int)))) 4294967296))) 4294967296)))+(Int.fdiv (wrap .u64 ((wrap .u64 ((BitVec.toNat ((BitVec.ofInt 64 (wrap .u64 ((wrap .u64 ((Int.fdiv x.1 4294967296)*(wrap .u64 ((BitVec.toNat ((BitVec.ofInt 64 x.2.1)&&& (BitVec.ofInt 64 4294967295)):Nat):Int))))+(Int.fdiv (wrap .u64 ((wrap .u64 ((BitVec.toNat ((BitVec.ofInt 64 x.1)&&& (BitVec.ofInt 64 4294967295)):Nat):Int))*(wrap .u64 ((BitVec.toNat ((BitVec.ofInt 64 x.2.1)&&& (BitVec.ofInt 64 4294967295)):Nat):Int)))) 4294967296))))&&& (BitVec.ofInt 64 4294967295)):Nat):Int))+(wrap .u64 ((wrap .u64 ((BitVec.toNat ((BitVec.ofInt 64 x.1)&&& (BitVec.ofInt 64 4294967295)):Nat):Int))*(Int.fdiv x.2.1 4294967296))))) 4294967296)),wrap .u64 (x.1*x.2.1)),())
def S.math_bits_Mul64 (x:(Int×(Int×Unit))):(Option ((Int×Int)×Unit)):=P.math_bits_Mul64 0 x
theorem S.math_bits_Mul64_ok (x r) (h:S.math_bits_Mul64 x=some r):∃k,P.math_bits_Mul64 k x=some r:=⟨0,h⟩
def P.math_bits_Mul (k:Nat) (x:Int×Int×Unit):Option ((Int×Int)×Unit):=
 (S.math_bits_Mul64 (x.1,x.2.1,())).bind fun y0=>some ((y0.1.1,y0.1.2),())
def S.math_bits_Mul (x:(Int×(Int×Unit))):(Option ((Int×Int)×Unit)):=P.math_bits_Mul 0 x
theorem S.math_bits_Mul_ok (x r) (h:S.math_bits_Mul x=some r):∃k,P.math_bits_Mul k x=some r:=⟨0,h⟩
abbrev P.a2b (x2:(Int×((List RB)×Unit))) (g3:(Int×((List RB)×Unit))->Option ((List RB)×Unit)):Option ((List RB)×Unit):=
 (if((decide (x2.1<((List.length x2.2.1):Int)))=true)then(if((decide ((0:Int)<=((List.length x2.2.1):Int)))=true)then(if((decide ((((List.length x2.2.1):Int)+(0:Int))<=((List.length x2.2.1):Int)))=true)then(if((decide ((0:Int)<=x2.1))=true)then(if((decide (x2.1<=((List.length x2.2.1):Int)))=true)then(if((decide ((0:Int)<=x2.1))=true)then(if((decide ((x2.1+(0:Int))<=((List.length x2.2.1):Int)))=true)then(if((decide ((0:Int)<=x2.1))=true)then(g3 ((IntKind.wrap .i64 (x2.1+(((Min.min (List.length (seen x2.2.1 (0:Nat) ((Int.toNat x2.1) - (0:Nat)))) ((Int.toNat ((List.length x2.2.1):Int)) - (Int.toNat x2.1))):Nat):Int))),((splice x2.2.1 (List.take ((Int.toNat ((List.length x2.2.1):Int)) - (Int.toNat x2.1)) (seen x2.2.1 (0:Nat) ((Int.toNat x2.1) - (0:Nat)))) ((0:Nat)+(Int.toNat x2.1))),())))
 else none)
 else none)
 else none)
 else none)
 else none)
 else none)
 else none)
 else(some (x2.2.1,())))
def P.a3v (k:Nat) (x:((List RB)×(Int×Unit))):(Option ((List RB)×Unit)):=
 (if((decide (x.2.1<(0:Int)))=true)then none
 else(Option.bind (S.math_bits_Mul ((IntKind.wrap .u64 ((List.length x.1):Int)),((IntKind.wrap .u64 x.2.1),()))) (fun(y0:((Int×Int)×Unit))=>(if((decide (y0.1.1>(0:Int)))=true)then none
 else(if((decide (y0.1.2>(9223372036854775807:Int)))=true)then none
 else(if((decide ((0:Int)<=(IntKind.wrap .i64 y0.1.2)))=true)then(if((decide ((IntKind.wrap .i64 y0.1.2)<=(IntKind.wrap .i64 y0.1.2)))=true)then(if((decide (((IntKind.wrap .i64 y0.1.2)*(56:Int))<=(281474976710656:Int)))=true)then(loopP (X:=(Int×((List RB)×Unit))) (R:=((List RB)×Unit)) (P.a2b) k ((((Min.min (List.length x.1) (List.length (List.replicate (Int.toNat (IntKind.wrap .i64 y0.1.2)) (false,(([]:List Int),([]:List Int)))))):Nat):Int),((splice (List.replicate (Int.toNat (IntKind.wrap .i64 y0.1.2)) (false,(([]:List Int),([]:List Int)))) (List.take (List.length (List.replicate (Int.toNat (IntKind.wrap .i64 y0.1.2)) (false,(([]:List Int),([]:List Int))))) x.1) (0:Nat)),())))
 else none)
 else none)
 else none))))))
def PP.slices_Repeat__i_rat_i_rat (k:Nat) (x:((List RB)×(Int×Unit))):(Option ((List RB)×Unit)):=
 (Decidable.rec (motive:=fun _=>(Option ((List RB)×Unit))) (fun _=>(Option.bind (S.math_bits_Mul ((IntKind.wrap .u64 ((List.length x.1):Int)),((IntKind.wrap .u64 x.2.1),()))) (fun(y0:((Int×Int)×Unit))=>(Decidable.rec (motive:=fun _=>(Option ((List RB)×Unit))) (fun _=>(Decidable.rec (motive:=fun _=>(Option ((List RB)×Unit))) (fun _=>(Decidable.rec (motive:=fun _=>(Option ((List RB)×Unit))) (fun _=>none) (fun _=>(Decidable.rec (motive:=fun _=>(Option ((List RB)×Unit))) (fun _=>none) (fun _=>(Decidable.rec (motive:=fun _=>(Option ((List RB)×Unit))) (fun _=>none) (fun _=>(loopP (X:=(Int×((List RB)×Unit))) (R:=((List RB)×Unit)) (P.a2b) k ((((Min.min (List.length x.1) (List.length (List.replicate (Int.toNat (IntKind.wrap .i64 y0.1.2)) (false,(([]:List Int),([]:List Int)))))):Nat):Int),((splice (List.replicate (Int.toNat (IntKind.wrap .i64 y0.1.2)) (false,(([]:List Int),([]:List Int)))) (List.take (List.length (List.replicate (Int.toNat (IntKind.wrap .i64 y0.1.2)) (false,(([]:List Int),([]:List Int))))) x.1) (0:Nat)),())))) (instDecidableEqBool (decide (((IntKind.wrap .i64 y0.1.2)*(56:Int))<=(281474976710656:Int))) true))) (instDecidableEqBool (decide ((IntKind.wrap .i64 y0.1.2)<=(IntKind.wrap .i64 y0.1.2))) true))) (instDecidableEqBool (decide ((0:Int)<=(IntKind.wrap .i64 y0.1.2))) true))) (fun _=>none) (instDecidableEqBool (decide (y0.1.2>(9223372036854775807:Int))) true))) (fun _=>none) (instDecidableEqBool (decide (y0.1.1>(0:Int))) true))))) (fun _=>none) (instDecidableEqBool (decide (x.2.1<(0:Int))) true))
theorem PP.slices_Repeat__i_rat_i_rat_eq (k:Nat) (x:((List RB)×(Int×Unit))):PP.slices_Repeat__i_rat_i_rat k x=P.a3v k x:=rfl
theorem mul_one_bits:∀n:Fin 21,S.math_bits_Mul (1,((n.val:Int),()))=some ((0,(n.val:Int)),()):=by decide
def S.a0o (x:((List RB)×(Int×Unit))):(Option ((List RB)×Unit)):=if x.1.length=1/\0<=x.2.1/\x.2.1<=20 then some (List.replicate x.2.1.toNat (x.1.getD 0 (false,([],[]))),())else none
theorem S.slices_Repeat__i_rat_i_rat_ok (x r) (h:S.a0o x=some r):∃k,P.a3v k x=some r:=by
 obtain⟨xs,m,u⟩:=x;unfold S.a0o at h;dsimp only at h;split at h
 case isFalse=>cases h
 rename_i hc;cases h;obtain⟨hx,h1,h2⟩:=hc;obtain⟨a,rfl⟩:∃a,xs=[a]:=by
  match xs,hx with
  | [a],_=>exact⟨a,rfl⟩
 obtain⟨M,rfl⟩:∃M:Nat,m=(M:Int):=⟨m.toNat,by omega⟩
 rw[Int.toNat_natCast];refine⟨M+2,?_⟩;unfold P.a3v;dsimp only;have hmul:=mul_one_bits ⟨M,by omega⟩;dsimp only at hmul;have e0:IntKind.wrap .u64 (M:Int)=(M:Int):=IntWalk.u64_in _ (by omega);rw[if_neg (by simp),e0];show Option.bind (S.math_bits_Mul (1,((M:Int),()))) _=_;rw[hmul,Option.bind_some];dsimp only;rw[if_neg (show ¬((decide ((0:Int)>0))=true) by simp),if_neg (by simpa using(show ¬(M:Int)>9223372036854775807 by omega)),wr (by omega) (by omega),if_pos (decide_eq_true (show(0:Int)<=(M:Int) by omega)),if_pos (by simp),if_pos (decide_eq_true (show(M:Int)*56<=281474976710656 by omega)),Int.toNat_natCast];simp only[List.length_replicate,List.length_cons,List.length_nil,Nat.zero_add];have key:∀(d j k:Nat),j+d=M->1<=j->d<k->loopP P.a2b k ((j:Int),List.replicate j a++List.replicate d (false,(([]:List Int),([]:List Int))),())=some (List.replicate M a,()):=by
  intro d
  induction d using Nat.strongRecOn with
  |ind d ih=>
   intro j k hj h1 hk;cases k with
   |zero=>omega
   |succ k=>
    rw[a0k];unfold P.a2b;have hlen:(List.replicate j a++List.replicate d (false,(([]:List Int),([]:List Int)))).length=M:=by simp;omega
    dsimp only;rw[hlen]
    by_cases hd:d=0
    ·subst hd;rw[if_neg (by simpa using(show ¬(j:Int)<(M:Int) by omega))];rw[show j=M by omega];simp
    ·have c1:(j:Int)<(M:Int):=by omega
     have c2:(0:Int)<=(M:Int):=by omega
     have c3:(M:Int)+0<=(M:Int):=by omega
     have c4:(0:Int)<=(j:Int):=by omega
     have c5:(j:Int)<=(M:Int):=by omega
     have c6:(j:Int)+0<=(M:Int):=by omega
     simp only[c1,c2,c3,c4,c5,c6,decide_true,if_true];have hs:seen (List.replicate j a++List.replicate d (false,(([]:List Int),([]:List Int)))) 0 ((j:Int).toNat - 0)=List.replicate j a:=by
      unfold seen;rw[Int.toNat_natCast,Nat.sub_zero,List.drop_zero,List.take_left' (by simp)]
     rw[hs,List.length_replicate,Int.toNat_natCast,Int.toNat_natCast];have hsp:splice (List.replicate j a++List.replicate d (false,(([]:List Int),([]:List Int)))) (List.take (M - j) (List.replicate j a)) (0+j)=List.replicate (j+min j d) a++List.replicate (d - min j d) (false,(([]:List Int),([]:List Int))):=by
      unfold splice;rw[Nat.zero_add,List.take_left' (by simp),List.take_replicate,List.length_replicate,show M - j=d by omega,List.drop_append];simp only[List.length_replicate];rw[List.drop_of_length_le (by simp),List.nil_append,List.drop_replicate,<-List.replicate_append_replicate,show j+min d j - j=min d j by omega,Nat.min_comm d j]
     rw[hsp,show M - j=d by omega,wr (by omega) (by omega)];have:=ih (d - min j d) (by omega) (j+min j d) k (by omega) (by omega) (by omega);rw[<-this];congr 2
 match M,h2 with
 |0,_=>
  rfl
 |M+1,h2=>
  have:=key M 1 (M+1+2) (by omega) (by omega) (by omega);have a1:min 1 (M+1)=1:=by omega
  have a2:splice (List.replicate (M+1) (false,(([]:List Int),([]:List Int)))) (List.take (M+1) [a]) 0=List.replicate 1 a++List.replicate M (false,(([]:List Int),([]:List Int))):=by
   unfold splice;simp [List.replicate_succ]
  rw[a1,a2];exact this
abbrev P.i_nat_sub_b0 (x1:Int×Int×List Int×Int×List Int×List Int×Unit) (g2:Int×Int×List Int×Int×List Int×List Int×Unit->Option (List Int×Unit)):Option (List Int×Unit):=
 (fun(a b d:Int) (c e f:List Int)=>if decide (a<b)then if decide (0<=a)then if decide (a<(c.length:Int))then if decide (a<(e.length:Int))then if decide (0<=a)then if decide (a<(e.length:Int))then if decide ((wrap .i64 ((wrap .i64 ((wrap .i64 (c.getD a.toNat 0)) - d)) - (wrap .i64 (e.getD a.toNat 0))))<0)then if decide (0<=a)then if decide (a<(f.length:Int))then g2 (wrap .i64 (a+1),b,c,1,e,f.set (0+a.toNat) (wrap .u32 (wrap .i64 ((wrap .i64 ((wrap .i64 (c.getD a.toNat 0)) - d)) - (wrap .i64 (e.getD a.toNat 0))))),())else none else none else if decide (0<=a)then if decide (a<(f.length:Int))then g2 (wrap .i64 (a+1),b,c,0,e,f.set (0+a.toNat) (wrap .u32 (wrap .i64 ((wrap .i64 ((wrap .i64 (c.getD a.toNat 0)) - d)) - (wrap .i64 (e.getD a.toNat 0))))),())else none else none else none else none else if decide ((wrap .i64 ((wrap .i64 (c.getD a.toNat 0)) - d))<0)then if decide (0<=a)then if decide (a<(f.length:Int))then g2 (wrap .i64 (a+1),b,c,1,e,f.set (0+a.toNat) (wrap .u32 (wrap .i64 ((wrap .i64 (c.getD a.toNat 0)) - d))),())else none else none else if decide (0<=a)then if decide (a<(f.length:Int))then g2 (wrap .i64 (a+1),b,c,0,e,f.set (0+a.toNat) (wrap .u32 (wrap .i64 ((wrap .i64 (c.getD a.toNat 0)) - d))),())else none else none else none else none else(S.a3j (f,())).bind fun y3=>some (y3.1,())) x1.1 x1.2.1 x1.2.2.2.1 x1.2.2.1 x1.2.2.2.2.1 x1.2.2.2.2.2.1
def P.i_nat_sub (k:Nat) (x:List Int×List Int×Unit):Option (List Int×Unit):=
 if decide (0<=(x.1.length:Int))then if decide ((x.1.length:Int)<=(x.1.length:Int))then if decide (((x.1.length:Int)*4)<=281474976710656)then loopP P.i_nat_sub_b0 k (0,(x.1.length:Int),x.1,0,x.2.1,List.replicate (Int.toNat (x.1.length:Int)) 0,())else none else none else none
def S.i_nat_sub (x:((List Int)×((List Int)×Unit))):(Option ((List Int)×Unit)):=if dig B32 x.1=true/\dig B32 x.2.1=true/\x.2.1.length<=x.1.length/\a0c B32 x.2.1<=a0c B32 x.1/\x.1.length<=10000000000 then some (nd B32 (a0c B32 x.1 - a0c B32 x.2.1),())else none
theorem S.i_nat_sub_ok (x r) (h:S.i_nat_sub x=some r):∃k,P.i_nat_sub k x=some r:=by
 obtain⟨xs,ys,u⟩:=x;unfold S.i_nat_sub at h;dsimp only at h;split at h
 case isFalse=>cases h
 rename_i hc;obtain⟨dx,dy,hl,hv,lx⟩:=hc;cases h;refine⟨xs.length+1,?_⟩;unfold P.i_nat_sub;dsimp only;have a1:(0:Int)<=(xs.length:Int):=by omega
 have a2:(xs.length:Int)*4<=281474976710656:=by omega
 simp only[a1,a2,decide_true,if_true,Int.le_refl,Int.toNat_natCast];have key:=a0g (k:=xs.length+1) (b:=P.i_nat_sub_b0) (n:=xs.length) (st:=fun i=>((i:Int),(xs.length:Int),xs,((a2e B32 1 xs ys i).2.2:Int),ys,(a2e B32 1 xs ys i).1++List.replicate (xs.length - i) 0,())) (F:=fun i=>some (nd B32 (a0c B32 xs - a0c B32 ys),())) (fun i g hi hg=>by
  unfold P.i_nat_sub_b0;dsimp only at hg ⊢;refine Eq.trans ?_ hg;clear hg;obtain⟨q1,q2,q3,q4,q5⟩:=takeUp_ok (t:=1) a0e dx dy i;have gx:=a1c (B:=B32) (by decide) dx i;have gy:=a1c (B:=B32) (by decide) dy i;have gx1:xs.getD i 0<4294967296:=gx.2;have gy1:ys.getD i 0<4294967296:=gy.2;have gx0:=gx.1;have gy0:=gy.1;have hlen:((a2e B32 1 xs ys i).1++List.replicate (xs.length - i) (0:Int)).length=xs.length:=by rw[List.length_append,q2,List.length_replicate];omega
  have e1:(i:Int)<(xs.length:Int):=by omega
  have e2:(0:Int)<=(i:Int):=by omega
  rw[hlen];simp only[e1,e2,decide_true,if_true,Nat.zero_add,Int.toNat_natCast];have hrep:List.replicate (xs.length - i) (0:Int)=0::List.replicate (xs.length - (i+1)) 0:=by
   rw[show xs.length - i=(xs.length - (i+1))+1 by omega,List.replicate_succ]
  rw[hrep];simp only[mid_set q2];rw[(takeUp_one a0e (xs:=xs) dy i).2];dsimp only;have y0:¬((i:Int)<(ys.length:Int))->ys.getD i 0=0:=by
   intro hj;rw[List.getD_eq_getElem?_getD,List.getElem?_eq_none (by omega)];rfl
  generalize (a2e B32 1 xs ys i).1=pl at*;generalize (a2e B32 1 xs ys i).2.2=l0 at*;obtain⟨x,hx⟩:∃x,xs.getD i 0=x:=⟨_,rfl⟩
  obtain⟨y,hy⟩:∃y,ys.getD i 0=y:=⟨_,rfl⟩
  simp only[hx,hy]at gx1 gx0 gy1 gy0 y0 ⊢;have hB:((B32:Nat):Int)=4294967296:=rfl;rw[wr (x:=(i:Int)+1) (by omega) (by omega),wr (x:=x) (by omega) (by omega),wr (x:=x - (l0:Int)) (by omega) (by omega),hB]
  by_cases hj:(i:Int)<(ys.length:Int)
  ·rw[if_pos (decide_eq_true hj),if_pos (decide_eq_true hj),wr (x:=y) (by omega) (by omega),wr (x:=x - (l0:Int) - y) (by omega) (by omega),u32_emod,show x - (l0:Int) - y=x - y - (l0:Int) by omega]
   by_cases hn:x - y - (l0:Int)<0
   ·rw[if_pos (decide_eq_true hn),if_pos hn];rfl
   ·rw[if_neg (by simpa using hn),if_neg hn];rfl
  ·have hy0:=y0 hj;subst hy0;rw[if_neg (by simpa using hj),u32_emod,show x - 0 - (l0:Int)=x - (l0:Int) by omega]
   by_cases hn:x - (l0:Int)<0
   ·rw[if_pos (decide_eq_true hn),if_pos hn];rfl
   ·rw[if_neg (by simpa using hn),if_neg hn];rfl) (fun g=>by
  unfold P.i_nat_sub_b0;dsimp only;rw[if_neg (by simp),Nat.sub_self,show List.replicate 0 (0:Int)=[]from rfl,List.append_nil,takeUp_fd a0e dx dy hl hv];unfold S.a3j;dsimp only;have hb:=a1n dx;rw[if_pos ⟨dig_fd (by decide) _ _,by rw[a2t];omega⟩,Option.bind_some,nd_fd a0e (by omega)]) (by omega)
 exact key
abbrev i_nat_add.A:=Int×Int×Int×List Int×List Int×List Int×Unit
abbrev i_nat_add.B:=Option (List Int×Unit)
abbrev P.i_nat_add_b0 (x1:i_nat_add.A) (g2:i_nat_add.A->i_nat_add.B):i_nat_add.B:=
 (fun(a b c:Int) (d e f:List Int)=>if decide (a<b)then if decide (0<=a)then if decide (a<(d.length:Int))then if decide (a<(e.length:Int))then if decide (0<=a)then if decide (a<(e.length:Int))then if decide (0<=a)then if decide (a<(f.length:Int))then g2 (wrap .i64 (a+1),b,Int.fdiv (wrap .u64 ((wrap .u64 (c+(wrap .u64 (d.getD a.toNat 0))))+(wrap .u64 (e.getD a.toNat 0)))) 4294967296,d,e,f.set (0+a.toNat) (wrap .u32 (wrap .u64 ((wrap .u64 (c+(wrap .u64 (d.getD a.toNat 0))))+(wrap .u64 (e.getD a.toNat 0))))),())else none else none else none else none else if decide (0<=a)then if decide (a<(f.length:Int))then g2 (wrap .i64 (a+1),b,Int.fdiv (wrap .u64 (c+(wrap .u64 (d.getD a.toNat 0)))) 4294967296,d,e,f.set (0+a.toNat) (wrap .u32 (wrap .u64 (c+(wrap .u64 (d.getD a.toNat 0))))),())else none else none else none else none else if decide (0<=(d.length:Int))then if decide ((d.length:Int)<(f.length:Int))then(S.a3j (f.set (0+(Int.toNat (d.length:Int))) (wrap .u32 c),())).bind fun y3=>some (y3.1,())else none else none) x1.1 x1.2.1 x1.2.2.1 x1.2.2.2.1 x1.2.2.2.2.1 x1.2.2.2.2.2.1
abbrev P.i_nat_add_b4 (x5:i_nat_add.A) (g6:i_nat_add.A->i_nat_add.B):i_nat_add.B:=
 (fun(a b c:Int) (d e f:List Int)=>if decide (a<b)then if decide (0<=a)then if decide (a<(d.length:Int))then if decide (a<(e.length:Int))then if decide (0<=a)then if decide (a<(e.length:Int))then if decide (0<=a)then if decide (a<(f.length:Int))then g6 (wrap .i64 (a+1),b,Int.fdiv (wrap .u64 ((wrap .u64 (c+(wrap .u64 (d.getD a.toNat 0))))+(wrap .u64 (e.getD a.toNat 0)))) 4294967296,d,e,f.set (0+a.toNat) (wrap .u32 (wrap .u64 ((wrap .u64 (c+(wrap .u64 (d.getD a.toNat 0))))+(wrap .u64 (e.getD a.toNat 0))))),())else none else none else none else none else if decide (0<=a)then if decide (a<(f.length:Int))then g6 (wrap .i64 (a+1),b,Int.fdiv (wrap .u64 (c+(wrap .u64 (d.getD a.toNat 0)))) 4294967296,d,e,f.set (0+a.toNat) (wrap .u32 (wrap .u64 (c+(wrap .u64 (d.getD a.toNat 0))))),())else none else none else none else none else if decide (0<=(d.length:Int))then if decide ((d.length:Int)<(f.length:Int))then(S.a3j (f.set (0+(Int.toNat (d.length:Int))) (wrap .u32 c),())).bind fun y7=>some (y7.1,())else none else none) x5.1 x5.2.1 x5.2.2.1 x5.2.2.2.1 x5.2.2.2.2.1 x5.2.2.2.2.2.1
def P.i_nat_add (k:Nat) (x:List Int×List Int×Unit):i_nat_add.B:=
 if decide ((x.1.length:Int)<(x.2.1.length:Int))then if decide (0<=(wrap .i64 ((x.2.1.length:Int)+1)))then if decide ((wrap .i64 ((x.2.1.length:Int)+1))<=(wrap .i64 ((x.2.1.length:Int)+1)))then if decide (((wrap .i64 ((x.2.1.length:Int)+1))*4)<=281474976710656)then loopP P.i_nat_add_b0 k (0,(x.2.1.length:Int),0,x.2.1,x.1,List.replicate (Int.toNat (wrap .i64 ((x.2.1.length:Int)+1))) 0,())else none else none else none else if decide (0<=(wrap .i64 ((x.1.length:Int)+1)))then if decide ((wrap .i64 ((x.1.length:Int)+1))<=(wrap .i64 ((x.1.length:Int)+1)))then if decide (((wrap .i64 ((x.1.length:Int)+1))*4)<=281474976710656)then loopP P.i_nat_add_b4 k (0,(x.1.length:Int),0,x.1,x.2.1,List.replicate (Int.toNat (wrap .i64 ((x.1.length:Int)+1))) 0,())else none else none else none
theorem add_loop (b:(Int×(Int×(Int×((List Int)×((List Int)×((List Int)×Unit))))))->((Int×(Int×(Int×((List Int)×((List Int)×((List Int)×Unit))))))->Option ((List Int)×Unit))->Option ((List Int)×Unit)) (hb:b=P.i_nat_add_b0)
  (xs ys:List Int) (hx:dig B32 xs=true) (hy:dig B32 ys=true) (hl:ys.length<=xs.length) (hbig:xs.length<=100000000000):
  loopP b (xs.length+1) ((0:Int),((xs.length:Int),((0:Int),(xs,(ys,(List.replicate (xs.length+1) 0,()))))))=some (nd B32 (a0c B32 xs+a0c B32 ys),()):=by
 subst hb;have key:=a0g (k:=xs.length+1) (b:=P.i_nat_add_b0) (n:=xs.length) (st:=fun i=>((i:Int),(xs.length:Int),((a1f B32 xs ys i).2:Int),xs,ys,(a1f B32 xs ys i).1++List.replicate (xs.length+1 - i) 0,())) (F:=fun i=>some (nd B32 (a0c B32 xs+a0c B32 ys),())) (fun i g hi hg=>by
  unfold P.i_nat_add_b0;dsimp only at hg ⊢;obtain⟨q1,q2,q3,q4⟩:=addUp_ok a0e hx hy i;have gx:=a1c (B:=B32) (by decide) hx i;have gy:=a1c (B:=B32) (by decide) hy i;have gx1:xs.getD i 0<4294967296:=gx.2;have gy1:ys.getD i 0<4294967296:=gy.2;have gx0:=gx.1;have gy0:=gy.1;have hlen:((a1f B32 xs ys i).1++List.replicate (xs.length+1 - i) (0:Int)).length=xs.length+1:=by rw[List.length_append,q2,List.length_replicate];omega
  have e1:(i:Int)<(xs.length:Int):=by omega
  have e2:(0:Int)<=(i:Int):=by omega
  have e3:(i:Int)<((xs.length+1:Nat):Int):=by omega
  have hset:∀v:Int,((a1f B32 xs ys i).1++List.replicate (xs.length+1 - i) (0:Int)).set i v=((a1f B32 xs ys i).1++[v])++List.replicate (xs.length+1 - (i+1)) 0:=by
   intro v;have z1:xs.length+1 - i=(xs.length+1 - (i+1))+1:=by omega
   rw[z1,List.replicate_succ,List.set_append_right _ _ (by omega),q2,Nat.sub_self,List.append_assoc];rfl
  rw[hlen];simp only[e1,e2,e3,decide_true,if_true,Nat.zero_add,Int.toNat_natCast,hset];have hnat:∀n:Nat,n=(a1f B32 xs ys i).2+(xs.getD i 0).toNat+(ys.getD i 0).toNat->(((n%B32:Nat):Int)=(n:Int)%4294967296/\((n/B32:Nat):Int)=(n:Int)/4294967296):=by
   intro n _;constructor
   ·show((n%4294967296:Nat):Int)=_;omega
   ·show((n/4294967296:Nat):Int)=_;omega
  obtain⟨n1,n2⟩:=hnat _ rfl;rw[a1f]at hg;dsimp only at hg;rw[n1,n2]at hg
  by_cases hj:(i:Int)<(ys.length:Int)
  ·rw[if_pos (decide_eq_true hj),if_pos (decide_eq_true hj)];rw[wu (x:=xs.getD i 0) (by omega) (by omega),wu (x:=ys.getD i 0) (by omega) (by omega),wu (x:=((a1f B32 xs ys i).2:Int)+xs.getD i 0) (by omega) (by omega),wu (x:=((a1f B32 xs ys i).2:Int)+xs.getD i 0+ys.getD i 0) (by omega) (by omega),u32_mod _ (by omega),Int.fdiv_eq_ediv_of_nonneg _ (by omega),wr (by omega) (by omega)];have e:(((a1f B32 xs ys i).2+(xs.getD i 0).toNat+(ys.getD i 0).toNat:Nat):Int)=((a1f B32 xs ys i).2:Int)+xs.getD i 0+ys.getD i 0:=by omega
   rw[e]at hg;exact hg
  ·rw[if_neg (by simpa using hj)];have y0:ys.getD i 0=0:=by rw[List.getD_eq_getElem?_getD,List.getElem?_eq_none (by omega)];rfl
   rw[wu (x:=xs.getD i 0) (by omega) (by omega),wu (x:=((a1f B32 xs ys i).2:Int)+xs.getD i 0) (by omega) (by omega),u32_mod _ (by omega),Int.fdiv_eq_ediv_of_nonneg _ (by omega),wr (by omega) (by omega)];have e:(((a1f B32 xs ys i).2+(xs.getD i 0).toNat+(ys.getD i 0).toNat:Nat):Int)=((a1f B32 xs ys i).2:Int)+xs.getD i 0:=by omega
   rw[e]at hg;exact hg) (fun g=>by
  unfold P.i_nat_add_b0;dsimp only;obtain⟨q1,q2,q3,q4⟩:=addUp_ok a0e hx hy xs.length;have hlen:((a1f B32 xs ys xs.length).1++List.replicate (xs.length+1 - xs.length) (0:Int)).length=xs.length+1:=by rw[List.length_append,q2,List.length_replicate];omega
  have e2:(0:Int)<=(xs.length:Int):=by omega
  have e3:(xs.length:Int)<((xs.length+1:Nat):Int):=by omega
  rw[if_neg (by simp),hlen,if_pos (decide_eq_true e2),if_pos (decide_eq_true e3),Nat.zero_add,Int.toNat_natCast];have hset:∀v:Int,((a1f B32 xs ys xs.length).1++List.replicate (xs.length+1 - xs.length) (0:Int)).set xs.length v=(a1f B32 xs ys xs.length).1++[v]:=by
   intro v;have z1:xs.length+1 - xs.length=1:=by omega
   rw[z1,List.set_append_right _ _ (by omega),q2,Nat.sub_self];rfl
  rw[hset,w32 (by omega) (by omega)];have hd:dig B32 ((a1f B32 xs ys xs.length).1++[((a1f B32 xs ys xs.length).2:Int)])=true:=by
   rw[a1m,q1,Bool.true_and,a2g];refine⟨⟨by omega,?_⟩,rfl⟩;show _<(4294967296:Int)
   omega
  rw[trim_i _ hd (by simp [q2];omega),Option.bind_some];have ev:a0c B32 ((a1f B32 xs ys xs.length).1++[((a1f B32 xs ys xs.length).2:Int)])=a0c B32 xs+a0c B32 ys:=by
   rw[a0x,q2];have e:a0c B32 [((a1f B32 xs ys xs.length).2:Int)]=(a1f B32 xs ys xs.length).2:=by simp [a0c]
   rw[e,q3,List.take_length,List.take_of_length_le hl]
  rw[ev]) (by omega)
 exact key
def S.i_nat_add (x:((List Int)×((List Int)×Unit))):(Option ((List Int)×Unit)):=if dig B32 x.1=true/\dig B32 x.2.1=true/\x.1.length<=10000000000/\x.2.1.length<=10000000000 then some (nd B32 (a0c B32 x.1+a0c B32 x.2.1),())else none
theorem S.i_nat_add_ok (x r) (h:S.i_nat_add x=some r):∃k,P.i_nat_add k x=some r:=by
 obtain⟨xs,ys,u⟩:=x;unfold S.i_nat_add at h;dsimp only at h;split at h
 case isFalse=>cases h
 rename_i hc;obtain⟨dx,dy,lx,ly⟩:=hc;cases h
 by_cases hlt:xs.length<ys.length
 ·refine⟨ys.length+1,?_⟩;unfold P.i_nat_add;dsimp only;have a1:(0:Int)<=(ys.length:Int)+1:=by omega
  have a3:((ys.length:Int)+1)*4<=281474976710656:=by omega
  rw[if_pos (decide_eq_true (by omega)),wr (by omega) (by omega),if_pos (decide_eq_true a1),if_pos (decide_eq_true (Int.le_refl _)),if_pos (decide_eq_true a3)];rw[show((ys.length:Int)+1).toNat=ys.length+1 by omega,add_loop P.i_nat_add_b0 rfl ys xs dy dx (by omega) (by omega),Nat.add_comm]
 ·refine⟨xs.length+1,?_⟩;unfold P.i_nat_add;dsimp only;have a1:(0:Int)<=(xs.length:Int)+1:=by omega
  have a3:((xs.length:Int)+1)*4<=281474976710656:=by omega
  rw[if_neg (by simp;omega),wr (by omega) (by omega),if_pos (decide_eq_true a1),if_pos (decide_eq_true (Int.le_refl _)),if_pos (decide_eq_true a3)];rw[show((xs.length:Int)+1).toNat=xs.length+1 by omega];exact add_loop P.i_nat_add_b4 rfl xs ys dx dy (by omega) (by omega)
def S.a2v (x:(Int×Unit)):(Option (Int×Unit)):=if 0<=x.1/\x.1<=4294967295 then some (32 - (Go.Lib.bitLen x.1.toNat:Int),())else none
abbrev P.i_nat_shifted_b0 (x1:Int×Int×List Int×Int×List Int×Unit) (g2:Int×Int×List Int×Int×List Int×Unit->Option (List Int×Unit)):Option (List Int×Unit):=
 (fun(a b d:Int) (c e:List Int)=>if decide (a<b)then if decide (0<=a)then if decide (a<(c.length:Int))then if decide (d<0)then none else if decide (0<=a)then if decide (a<(e.length:Int))then if decide (0<=a)then if decide (a<(e.length:Int))then if decide (0<=(wrap .i64 (a+1)))then if decide ((wrap .i64 (a+1))<(List.length (e.set (0+a.toNat) (wrap .u32 ((BitVec.toNat ((BitVec.ofInt 32 (e.getD (0+a.toNat) 0))|||(BitVec.ofInt 32 (wrap .u32 (wrap .u64 ((wrap .u64 (c.getD a.toNat 0))*((2:Int)^(Min.min d.toNat 64))))))):Nat):Int))):Int))then g2 (wrap .i64 (a+1),b,c,d,List.set (e.set (0+a.toNat) (wrap .u32 ((BitVec.toNat ((BitVec.ofInt 32 (e.getD (0+a.toNat) 0))|||(BitVec.ofInt 32 (wrap .u32 (wrap .u64 ((wrap .u64 (c.getD a.toNat 0))*((2:Int)^(Min.min d.toNat 64))))))):Nat):Int))) (0+(Int.toNat (wrap .i64 (a+1)))) (wrap .u32 (Int.fdiv (wrap .u64 ((wrap .u64 (c.getD a.toNat 0))*((2:Int)^(Min.min d.toNat 64)))) 4294967296)),())else none else none else none else none else none else none else none else none else some (e,())) x1.1 x1.2.1 x1.2.2.2.1 x1.2.2.1 x1.2.2.2.2.1
def P.i_nat_shifted (k:Nat) (x:List Int×Int×Unit):Option (List Int×Unit):=
 if decide (0<=(wrap .i64 ((x.1.length:Int)+1)))then if decide ((wrap .i64 ((x.1.length:Int)+1))<=(wrap .i64 ((x.1.length:Int)+1)))then if decide (((wrap .i64 ((x.1.length:Int)+1))*4)<=281474976710656)then loopP P.i_nat_shifted_b0 k (0,(x.1.length:Int),x.1,x.2.1,List.replicate (Int.toNat (wrap .i64 ((x.1.length:Int)+1))) 0,())else none else none else none
def S.a3d (x:((List Int)×(Int×Unit))):(Option ((List Int)×Unit)):=if dig B32 x.1=true/\0<=x.2.1/\x.2.1<=31/\x.1.length<=10000000000 then some (fd B32 (x.1.length+1) (a0c B32 x.1*2^x.2.1.toNat),())else none
theorem S.i_nat_shifted_ok (x r) (h:S.a3d x=some r):∃k,P.i_nat_shifted k x=some r:=by
 obtain⟨xs,by',u⟩:=x;unfold S.a3d at h;dsimp only at h;split at h
 case isFalse=>cases h
 rename_i hc;obtain⟨hd,hb0,hb1,hl⟩:=hc;cases h;obtain⟨s,rfl⟩:∃d:Nat,by'=(d:Int):=⟨by'.toNat,by omega⟩
 rw[Int.toNat_natCast];have hs:s<=31:=by omega
 have hpow:0<2^s:=Nat.pow_pos (by decide);have hpow32:2^s<=2147483648:=Nat.le_trans (Nat.pow_le_pow_right (by decide) hs) (by decide);refine⟨xs.length+1,?_⟩;unfold P.i_nat_shifted;dsimp only;rw[wr (by omega) (by omega)];have a1:(0:Int)<=(xs.length:Int)+1:=by omega
 have a3:((xs.length:Int)+1)*4<=281474976710656:=by omega
 rw[if_pos (decide_eq_true a1),if_pos (decide_eq_true (Int.le_refl _)),if_pos (decide_eq_true a3)];have e0:List.replicate ((xs.length:Int)+1).toNat (0:Int)=(mulUp B32 (2^s) xs 0).1++(((mulUp B32 (2^s) xs 0).2:Int)::List.replicate (xs.length - 0) 0):=by
  rw[show((xs.length:Int)+1).toNat=xs.length+1 by omega,List.replicate_succ];rfl
 rw[e0];have key:=a0g (k:=xs.length+1) (b:=P.i_nat_shifted_b0) (n:=xs.length) (st:=fun i=>((i:Int),(xs.length:Int),xs,(s:Int),(mulUp B32 (2^s) xs i).1++(((mulUp B32 (2^s) xs i).2:Int)::List.replicate (xs.length - i) 0),())) (F:=fun i=>some (fd B32 (xs.length+1) (a0c B32 xs*2^s),())) (fun i g hi hg=>by
  unfold P.i_nat_shifted_b0;dsimp only at hg ⊢;obtain⟨q1,q2,q3,q4⟩:=mulUp_ok (d:=2^s) a0e hd i (by omega);have hlen:((mulUp B32 (2^s) xs i).1++(((mulUp B32 (2^s) xs i).2:Int)::List.replicate (xs.length - i) 0)).length=xs.length+1:=by rw[List.length_append,q2,List.length_cons,List.length_replicate];omega
  have e1:(i:Int)<(xs.length:Int):=by omega
  have e2:(0:Int)<=(i:Int):=by omega
  have e3:(i:Int)<((xs.length+1:Nat):Int):=by omega
  have e4:¬((s:Int)<0):=by omega
  rw[hlen];simp only[e1,e2,e3,e4,decide_true,decide_false,if_true,Nat.zero_add,Int.toNat_natCast,List.length_set,hlen,Bool.false_eq_true,if_false];rw[wr (x:=(i:Int)+1) (by omega) (by omega)];have e5:(0:Int)<=(i:Int)+1:=by omega
  have e6:(i:Int)+1<((xs.length+1:Nat):Int):=by omega
  simp only[e5,e6,decide_true,if_true];have hgD:xs.getD i 0=xs[i]:=by simp [hi]
  have hx:=dig_get hd hi;have hx1:xs[i]<4294967296:=hx.2;have hx0:=hx.1;rw[mulUp,hgD]at hg;rw[hgD];have hcar:(mulUp B32 (2^s) xs i).2<2^s:=by
   have h1:a0c B32 (xs.take i)<B32^i:=by
    have h0:dig B32 (xs.take i)=true:=by
     have:=List.take_append_drop i xs;rw[<-this,a1m,Bool.and_eq_true]at hd;exact hd.1
    have:=a1n h0;rwa [show(xs.take i).length=i by simp;omega]at this
   have h2:a0c B32 (xs.take i)*2^s<B32^i*2^s:=Nat.mul_lt_mul_of_pos_right h1 hpow;exact Nat.lt_of_mul_lt_mul_left (a:=B32^i) (by omega)
  generalize hP:mulUp B32 (2^s) xs i=p at*;obtain⟨z,hz⟩:∃z:Nat,xs[i]=(z:Int):=⟨xs[i].toNat,(Int.toNat_of_nonneg hx0).symm⟩
  rw[hz]at hx1 hg ⊢;rw[Int.toNat_natCast]at hg;have hz32:z<2^32:=by omega
  have hzp:z*2^s<18446744073709551616:=Nat.lt_of_lt_of_le (Nat.mul_lt_mul_of_pos_right hz32 hpow) (by have:=Nat.mul_le_mul_left (2^32) hpow32;omega);have emin:Min.min s 64=s:=by omega
  have ep:((2:Int)^s)=((2^s:Nat):Int):=by rw[Int.natCast_pow];rfl
  have em:(z:Int)*((2^s:Nat):Int)=((z*2^s:Nat):Int):=(Int.natCast_mul _ _).symm;rw[wu (x:=(z:Int)) (by omega) (by omega),emin,ep,em,wu (x:=((z*2^s:Nat):Int)) (by omega) (by omega)];have g1:(p.1++((p.2:Int)::List.replicate (xs.length - i) 0)).getD i 0=(p.2:Int):=by
   rw[List.getD_eq_getElem?_getD,List.getElem?_append_right (by omega),q2,Nat.sub_self];rfl
  rw[g1,u32_mod ((z*2^s:Nat):Int) (by omega)];have e7:((z*2^s:Nat):Int)%4294967296=((z*2^s%2^32:Nat):Int):=by
   show _=((z*2^s%4294967296:Nat):Int)
   omega
  have hlow:=shl_low z s (by omega);have hor:p.2|||(z*2^s%2^32)=p.2+z*2^s%2^32:=by rw[hlow,or_apart _ _ _ hcar]
  have hmlt:z*2^s%2^32<2^32:=Nat.mod_lt _ (by decide);have hsum:p.2+z*2^s%2^32<2^32:=by
   have h1:z%2^(32 - s)+1<=2^(32 - s):=Nat.mod_lt _ (Nat.pow_pos (by decide));have h2:2^s*(z%2^(32 - s)+1)<=2^s*2^(32 - s):=Nat.mul_le_mul_left _ h1;rw[<-Nat.pow_add,show s+(32 - s)=32 by omega,Nat.mul_add]at h2;omega
  rw[e7,bv_or _ _ (by omega) hmlt,hor,w32 (by omega) (by omega),Int.fdiv_eq_ediv_of_nonneg _ (by omega)];have hq:z*2^s/4294967296<4294967296:=(Nat.div_lt_iff_lt_mul (by decide)).2 (by omega);have e8:((z*2^s:Nat):Int)/4294967296=((z*2^s/4294967296:Nat):Int):=by omega
  rw[e8,w32 (by omega) (by omega)];have e9:(z*2^s+p.2)%B32=p.2+z*2^s%2^32:=by
   show(z*2^s+p.2)%4294967296=p.2+z*2^s%4294967296;omega
  have e10:(z*2^s+p.2)/B32=z*2^s/4294967296:=by
   show(z*2^s+p.2)/4294967296=_;omega
  rw[e9,e10]at hg;have z1:xs.length - i=(xs.length - (i+1))+1:=by omega
  rw[z1,List.replicate_succ,List.set_append_right _ _ (by omega),q2,Nat.sub_self,List.set_cons_zero,List.set_append_right _ _ (by omega),q2,show((i:Int)+1).toNat - i=1 by omega,List.set_cons_succ,List.set_cons_zero];rw[List.append_assoc]at hg;exact hg) (fun g=>by
  unfold P.i_nat_shifted_b0;dsimp only;obtain⟨q1,q2,q3,q4⟩:=mulUp_ok (d:=2^s) a0e hd xs.length (Nat.le_refl _);rw[List.take_length]at q3;have hcar:(mulUp B32 (2^s) xs xs.length).2<2^s:=by
   have h2:a0c B32 xs*2^s<B32^xs.length*2^s:=Nat.mul_lt_mul_of_pos_right (a1n hd) hpow;exact Nat.lt_of_mul_lt_mul_left (a:=B32^xs.length) (by omega)
  rw[if_neg (by simp),Nat.sub_self];generalize mulUp B32 (2^s) xs xs.length=p at*;have hdd:dig B32 (p.1++[(p.2:Int)])=true:=by
   rw[a1m,q1,Bool.true_and,a2g];refine⟨⟨Int.natCast_nonneg _,?_⟩,rfl⟩;show(p.2:Int)<4294967296;omega
  have:=fd_dval (B:=B32) (by decide) hdd;rw[a0x,q2,show a0c B32 [(p.2:Int)]=p.2 by simp [a0c],q3,List.length_append,q2]at this;show some (p.1++[(p.2:Int)],())=_;rw[<-this];rfl) (by omega)
 exact key
abbrev i_takeAway.A:=Option (Bool×List Int×Unit)
abbrev P.a5c (x4:Int×Int×Int×List Int×List Int×Unit) (g5:Int×Int×Int×List Int×List Int×Unit->i_takeAway.A):i_takeAway.A:=
 (fun(a b c:Int) (d e:List Int)=>if decide (a<b)then if decide (0<=a)then if decide (a<(d.length:Int))then if decide (a<(e.length:Int))then if decide (0<=a)then if decide (a<(e.length:Int))then if decide (0<=a)then if decide (a<(d.length:Int))then g5 (wrap .i64 (a+1),b,Int.fdiv (wrap .u64 ((wrap .u64 (c+(wrap .u64 (d.getD (0+a.toNat) 0))))+(wrap .u64 (e.getD a.toNat 0)))) 4294967296,d.set (0+a.toNat) (wrap .u32 (wrap .u64 ((wrap .u64 (c+(wrap .u64 (d.getD (0+a.toNat) 0))))+(wrap .u64 (e.getD a.toNat 0))))),e,())else none else none else none else none else if decide (0<=a)then if decide (a<(d.length:Int))then g5 (wrap .i64 (a+1),b,Int.fdiv (wrap .u64 (c+(wrap .u64 (d.getD (0+a.toNat) 0)))) 4294967296,d.set (0+a.toNat) (wrap .u32 (wrap .u64 (c+(wrap .u64 (d.getD (0+a.toNat) 0))))),e,())else none else none else none else none else some (true,d,())) x4.1 x4.2.1 x4.2.2.1 x4.2.2.2.1 x4.2.2.2.2.1
abbrev P.i_takeAway_b0 (k:Nat) (x1:Int×Int×List Int×Int×Int×List Int×Int×Unit) (g2:Int×Int×List Int×Int×Int×List Int×Int×Unit->i_takeAway.A):i_takeAway.A:=
 (fun(a b d e h:Int) (c f:List Int)=>if decide (a<b)then if decide (a<(c.length:Int))then if decide (0<=a)then if decide (a<(c.length:Int))then if decide (0<=a)then if decide (a<(f.length:Int))then if decide ((wrap .i64 ((wrap .i64 ((wrap .i64 (f.getD (0+a.toNat) 0)) - (wrap .i64 (wrap .u32 (wrap .u64 (d+(wrap .u64 (e*(wrap .u64 (c.getD a.toNat 0)))))))))) - h))<0)then if decide (0<=a)then if decide (a<(f.length:Int))then g2 (wrap .i64 (a+1),b,c,Int.fdiv (wrap .u64 (d+(wrap .u64 (e*(wrap .u64 (c.getD a.toNat 0)))))) 4294967296,e,f.set (0+a.toNat) (wrap .u32 (wrap .i64 ((wrap .i64 ((wrap .i64 (f.getD (0+a.toNat) 0)) - (wrap .i64 (wrap .u32 (wrap .u64 (d+(wrap .u64 (e*(wrap .u64 (c.getD a.toNat 0)))))))))) - h))),1,())else none else none else if decide (0<=a)then if decide (a<(f.length:Int))then g2 (wrap .i64 (a+1),b,c,Int.fdiv (wrap .u64 (d+(wrap .u64 (e*(wrap .u64 (c.getD a.toNat 0)))))) 4294967296,e,f.set (0+a.toNat) (wrap .u32 (wrap .i64 ((wrap .i64 ((wrap .i64 (f.getD (0+a.toNat) 0)) - (wrap .i64 (wrap .u32 (wrap .u64 (d+(wrap .u64 (e*(wrap .u64 (c.getD a.toNat 0)))))))))) - h))),0,())else none else none else none else none else none else none else if decide (0<=a)then if decide (a<(f.length:Int))then if decide ((wrap .i64 ((wrap .i64 ((wrap .i64 (f.getD (0+a.toNat) 0)) - (wrap .i64 (wrap .u32 d)))) - h))<0)then if decide (0<=a)then if decide (a<(f.length:Int))then g2 (wrap .i64 (a+1),b,c,Int.fdiv d 4294967296,e,f.set (0+a.toNat) (wrap .u32 (wrap .i64 ((wrap .i64 ((wrap .i64 (f.getD (0+a.toNat) 0)) - (wrap .i64 (wrap .u32 d)))) - h))),1,())else none else none else if decide (0<=a)then if decide (a<(f.length:Int))then g2 (wrap .i64 (a+1),b,c,Int.fdiv d 4294967296,e,f.set (0+a.toNat) (wrap .u32 (wrap .i64 ((wrap .i64 ((wrap .i64 (f.getD (0+a.toNat) 0)) - (wrap .i64 (wrap .u32 d)))) - h))),0,())else none else none else none else none else if h==0 then if d==0 then some (false,f,())else loopP P.a5c k (0,(f.length:Int),0,f,c,())else loopP P.a5c k (0,(f.length:Int),0,f,c,())) x1.1 x1.2.1 x1.2.2.2.1 x1.2.2.2.2.1 x1.2.2.2.2.2.2.1 x1.2.2.1 x1.2.2.2.2.2.1
def P.i_takeAway (k:Nat) (x:List Int×List Int×Int×Unit):i_takeAway.A:=
 loopP (P.i_takeAway_b0 k) k (0,(x.1.length:Int),x.2.1,0,x.2.2.1,x.1,0,())
theorem takeBack (b:(Int×(Int×(Int×((List Int)×((List Int)×Unit)))))->((Int×(Int×(Int×((List Int)×((List Int)×Unit)))))->Option (Bool×((List Int)×Unit)))->Option (Bool×((List Int)×Unit))) (hb:b=P.a5c)
  (xs ys:List Int) (hx:dig B32 xs=true) (hy:dig B32 ys=true) (hl:ys.length<=xs.length) (hbig:xs.length<=100000000000):
  loopP b (xs.length+1) ((0:Int),((xs.length:Int),((0:Int),(xs,(ys,())))))=some (true,fd B32 xs.length (a0c B32 xs+a0c B32 ys),()):=by
 subst hb;have key:=a0g (k:=xs.length+1) (b:=P.a5c) (n:=xs.length) (st:=fun i=>((i:Int),(xs.length:Int),((a1f B32 xs ys i).2:Int),(a1f B32 xs ys i).1++xs.drop i,ys,())) (F:=fun i=>some (true,fd B32 xs.length (a0c B32 xs+a0c B32 ys),())) (fun i g hi hg=>by
  unfold P.a5c;dsimp only at hg ⊢;obtain⟨q1,q2,q3,q4⟩:=addUp_ok a0e hx hy i;have gx:=a1c (B:=B32) (by decide) hx i;have gy:=a1c (B:=B32) (by decide) hy i;have gx1:xs.getD i 0<4294967296:=gx.2;have gy1:ys.getD i 0<4294967296:=gy.2;have gx0:=gx.1;have gy0:=gy.1;have hlen:((a1f B32 xs ys i).1++xs.drop i).length=xs.length:=by rw[List.length_append,q2,List.length_drop];omega
  have e1:(i:Int)<(xs.length:Int):=by omega
  have e2:(0:Int)<=(i:Int):=by omega
  rw[hlen];simp only[e1,e2,decide_true,if_true,Nat.zero_add,Int.toNat_natCast];rw[a2p hi,mid_get q2];simp only[mid_set q2];have hnat:∀n:Nat,n=(a1f B32 xs ys i).2+(xs.getD i 0).toNat+(ys.getD i 0).toNat->(((n%B32:Nat):Int)=(n:Int)%4294967296/\((n/B32:Nat):Int)=(n:Int)/4294967296):=by
   intro n _;constructor
   ·show((n%4294967296:Nat):Int)=_;omega
   ·show((n/4294967296:Nat):Int)=_;omega
  obtain⟨n1,n2⟩:=hnat _ rfl;rw[a1f]at hg;dsimp only at hg;rw[n1,n2]at hg
  by_cases hj:(i:Int)<(ys.length:Int)
  ·rw[if_pos (decide_eq_true hj),if_pos (decide_eq_true hj)];rw[wu (x:=xs.getD i 0) (by omega) (by omega),wu (x:=ys.getD i 0) (by omega) (by omega),wu (x:=((a1f B32 xs ys i).2:Int)+xs.getD i 0) (by omega) (by omega),wu (x:=((a1f B32 xs ys i).2:Int)+xs.getD i 0+ys.getD i 0) (by omega) (by omega),u32_mod _ (by omega),Int.fdiv_eq_ediv_of_nonneg _ (by omega),wr (by omega) (by omega)];have e:(((a1f B32 xs ys i).2+(xs.getD i 0).toNat+(ys.getD i 0).toNat:Nat):Int)=((a1f B32 xs ys i).2:Int)+xs.getD i 0+ys.getD i 0:=by omega
   rw[e]at hg;exact hg
  ·rw[if_neg (by simpa using hj)];have y0:ys.getD i 0=0:=by rw[List.getD_eq_getElem?_getD,List.getElem?_eq_none (by omega)];rfl
   rw[wu (x:=xs.getD i 0) (by omega) (by omega),wu (x:=((a1f B32 xs ys i).2:Int)+xs.getD i 0) (by omega) (by omega),u32_mod _ (by omega),Int.fdiv_eq_ediv_of_nonneg _ (by omega),wr (by omega) (by omega)];have e:(((a1f B32 xs ys i).2+(xs.getD i 0).toNat+(ys.getD i 0).toNat:Nat):Int)=((a1f B32 xs ys i).2:Int)+xs.getD i 0:=by omega
   rw[e]at hg;exact hg) (fun g=>by
  unfold P.a5c;dsimp only;rw[if_neg (by simp),List.drop_length,List.append_nil,addUp_fd a0e hx hy hl]) (by omega)
 have e0:(a1f B32 xs ys 0).1++xs.drop 0=xs:=rfl;rw[e0]at key;exact key
def S.i_takeAway (x:((List Int)×((List Int)×(Int×Unit)))):(Option (Bool×((List Int)×Unit))):=
 if dig B32 x.1=true/\dig B32 x.2.1=true/\0<=x.2.2.1/\x.2.2.1<4294967296/\x.2.1.length<=x.1.length/\x.1.length<=10000000000/\a0c B32 x.2.1*x.2.2.1.toNat<=a0c B32 x.1+a0c B32 x.2.1 then
  (if a0c B32 x.2.1*x.2.2.1.toNat<=a0c B32 x.1 then some (false,fd B32 x.1.length (a0c B32 x.1 - a0c B32 x.2.1*x.2.2.1.toNat),())
   else some (true,fd B32 x.1.length (a0c B32 x.1+a0c B32 x.2.1 - a0c B32 x.2.1*x.2.2.1.toNat),()))else none
theorem S.i_takeAway_ok (x r) (h:S.i_takeAway x=some r):∃k,P.i_takeAway k x=some r:=by
 obtain⟨xs,ys,t',u⟩:=x;unfold S.i_takeAway at h;dsimp only at h;split at h
 case isFalse=>cases h
 rename_i hc;obtain⟨hx,hy,ht0,ht1,hl,hbig,hfit⟩:=hc;obtain⟨t,rfl⟩:∃d:Nat,t'=(d:Int):=⟨t'.toNat,by omega⟩
 rw[Int.toNat_natCast]at h hfit;have ht:t<=4294967295:=by omega
 refine⟨xs.length+1,?_⟩;rw[<-h];unfold P.i_takeAway;dsimp only;have key:=a0g (k:=xs.length+1) (b:=P.i_takeAway_b0 (xs.length+1)) (n:=xs.length) (st:=fun i=>((i:Int),(xs.length:Int),ys,((a2e B32 t xs ys i).2.1:Int),(t:Int),(a2e B32 t xs ys i).1++xs.drop i,((a2e B32 t xs ys i).2.2:Int),())) (F:=fun i=>(if a0c B32 ys*t<=a0c B32 xs then some (false,fd B32 xs.length (a0c B32 xs - a0c B32 ys*t),())
   else some (true,fd B32 xs.length (a0c B32 xs+a0c B32 ys - a0c B32 ys*t),()))) (fun i g hi hg=>by
  unfold P.i_takeAway_b0;dsimp only at hg ⊢;obtain⟨q1,q2,q3,q4,q5⟩:=takeUp_ok (t:=t) a0e hx hy i;have gx:=a1c (B:=B32) (by decide) hx i;have gy:=a1c (B:=B32) (by decide) hy i;have gx1:xs.getD i 0<4294967296:=gx.2;have gy1:ys.getD i 0<4294967296:=gy.2;have gx0:=gx.1;have gy0:=gy.1;have hlen:((a2e B32 t xs ys i).1++xs.drop i).length=xs.length:=by rw[List.length_append,q2,List.length_drop];omega
  have e1:(i:Int)<(xs.length:Int):=by omega
  have e2:(0:Int)<=(i:Int):=by omega
  rw[hlen];simp only[e1,e2,decide_true,if_true,Nat.zero_add,Int.toNat_natCast];rw[a2p hi,mid_get q2];simp only[mid_set q2];rw[a2e]at hg;dsimp only at hg;have y0:¬((i:Int)<(ys.length:Int))->ys.getD i 0=0:=by
   intro hj;rw[List.getD_eq_getElem?_getD,List.getElem?_eq_none (by omega)];rfl
  generalize xs.getD i 0=x at*;generalize ys.getD i 0=y at*;generalize a2e B32 t xs ys i=p at*;obtain⟨pl,c0,l0⟩:=p;dsimp only at*;obtain⟨Y,rfl⟩:∃Y:Nat,y=(Y:Int):=⟨y.toNat,by omega⟩
  rw[Int.toNat_natCast]at hg;have htY:t*Y<=4294967295*4294967295:=Nat.mul_le_mul ht (by omega);have em:(t:Int)*(Y:Int)=((t*Y:Nat):Int):=(Int.natCast_mul _ _).symm;have fin:∀c:Nat,c=c0+t*Y->(let n:=IntKind.wrap .i64 (IntKind.wrap .i64 (IntKind.wrap .i64 x - IntKind.wrap .i64 (IntKind.wrap .u32 (c:Int))) - (l0:Int))
    (if decide (n<0)=true then g (IntKind.wrap .i64 ((i:Int)+1),(xs.length:Int),ys,Int.fdiv (c:Int) 4294967296,(t:Int),(pl++[IntKind.wrap .u32 n])++xs.drop (i+1),1,())
     else g (IntKind.wrap .i64 ((i:Int)+1),(xs.length:Int),ys,Int.fdiv (c:Int) 4294967296,(t:Int),(pl++[IntKind.wrap .u32 n])++xs.drop (i+1),0,()))=(if a0c B32 ys*t<=a0c B32 xs then some (false,fd B32 xs.length (a0c B32 xs - a0c B32 ys*t),())
   else some (true,fd B32 xs.length (a0c B32 xs+a0c B32 ys - a0c B32 ys*t),()))):=by
   intro c hcc;rw[<-hcc]at hg;have e8:(c:Int)%4294967296=((c%B32:Nat):Int):=by
    show _=((c%4294967296:Nat):Int)
    omega
   have e9:Int.fdiv (c:Int) 4294967296=((c/B32:Nat):Int):=by
    rw[Int.fdiv_eq_ediv_of_nonneg _ (by omega)];show _=((c/4294967296:Nat):Int)
    omega
   have e10:c%B32<4294967296:=Nat.mod_lt _ (by decide);rw[u32_mod (c:Int) (by omega),e8,e9,wr (x:=(i:Int)+1) (by omega) (by omega),wr (x:=x) (by omega) (by omega),wr (x:=((c%B32:Nat):Int)) (by omega) (by omega),wr (x:=x - ((c%B32:Nat):Int)) (by omega) (by omega),wr (x:=x - ((c%B32:Nat):Int) - (l0:Int)) (by omega) (by omega)];dsimp only;rw[u32_emod]
   by_cases hn:x - ((c%B32:Nat):Int) - (l0:Int)<0
   ·rw[if_pos hn]at hg;rw[if_pos (decide_eq_true hn)];exact hg
   ·rw[if_neg hn]at hg;rw[if_neg (by simpa using hn)];exact hg
  by_cases hj:(i:Int)<(ys.length:Int)
  ·simp only[hj,decide_true,if_true];rw[wu (x:=(Y:Int)) (by omega) (by omega),em,wu (x:=((t*Y:Nat):Int)) (by omega) (by omega),<-Int.natCast_add,wu (x:=((c0+t*Y:Nat):Int)) (by omega) (by omega)];exact fin _ rfl
  ·rw[if_neg (by simpa using hj)];have hY:Y=0:=by have:=y0 hj;omega
   subst hY;exact fin c0 rfl) (fun g=>by
  unfold P.i_takeAway_b0;dsimp only;obtain⟨q1,q2,q3,q4,q5⟩:=takeUp_ok (t:=t) a0e hx hy xs.length;rw[List.take_length,List.take_of_length_le hl]at q3;rw[if_neg (by simp),List.drop_length,List.append_nil];generalize a2e B32 t xs ys xs.length=p at*;obtain⟨pl,c0,l0⟩:=p;dsimp only at*;have hlt:=a1n q1;rw[q2]at hlt;have hback:∀b,b=P.a5c->0<c0+l0->loopP b (xs.length+1) ((0:Int),((pl.length:Int),((0:Int),(pl,(ys,())))))=(if a0c B32 ys*t<=a0c B32 xs then some (false,fd B32 xs.length (a0c B32 xs - a0c B32 ys*t),())
   else some (true,fd B32 xs.length (a0c B32 xs+a0c B32 ys - a0c B32 ys*t),())):=by
   intro b hb hpos;have hge:B32^xs.length*1<=B32^xs.length*(c0+l0):=Nat.mul_le_mul_left _ hpos;rw[if_neg (by omega)];have:=takeBack b hb pl ys q1 hy (by omega) (by omega);rw[q2]at this;rw[q2,this];congr 2;have e1:a0c B32 pl+a0c B32 ys=(a0c B32 xs+a0c B32 ys - a0c B32 ys*t)+B32^xs.length*(c0+l0):=by omega
   rw[e1,<-fd_mod B32 xs.length (_+_),Nat.add_mul_mod_self_left,fd_mod]
  by_cases hl0:l0=0
  ·subst hl0;rw[if_pos (by rfl)]
   by_cases hc0:c0=0
   ·subst hc0;rw[if_pos (by rfl),if_pos (by omega)];congr 2;have:pl=fd B32 xs.length (a0c B32 xs - a0c B32 ys*t):=fd_eq a0e q1 q2 (by omega);rw[this]
   ·rw[if_neg (by simp;omega)];exact hback _ rfl (by omega)
  ·rw[if_neg (by simp;omega)];exact hback _ rfl (by omega)) (by omega)
 exact key
end Go.Cm
end
