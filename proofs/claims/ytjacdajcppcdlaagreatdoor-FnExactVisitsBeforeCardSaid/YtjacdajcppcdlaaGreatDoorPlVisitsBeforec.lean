import Derived.Test.YtjacdajcppcdlaaGreatDoorPlVisitsBeforeb
set_option linter.unusedVariables false
set_option maxRecDepth 100000
noncomputable section
namespace Go.Cm
open IntKind (wrap)
abbrev s_l03Means.A:=Int×Int×List (List RB)×Int×List Int×Int×List RB×List RB×List RB×List (List RB×Nat)×Int×Int×Unit
abbrev s_l03Means.B:=Int×Int×List Int×RB×List (List RB)×Int×List RB×List (List RB×Nat)×List RB×Int×Int×List RB×Unit
abbrev s_l03Means.C:=Int×Int×List Int×List (List RB)×List RB×List RB×List (List RB×Nat)×Unit
abbrev s_l03Means.D:=Option (List RB×Unit)
abbrev P.a7o (g2:s_l03Means.C->s_l03Means.D) (x14:s_l03Means.B) (g15:s_l03Means.B->s_l03Means.D):s_l03Means.D:=
 (fun(a b f l m:Int) (c:List Int) (d:RB) (e:List (List RB)) (h j n:List RB) (i:List (List RB×Nat))=>if decide (a<b)then(S.a2q (c,a,())).bind fun y16=>if !y16.1 then if decide (0<=f)then if decide (f<(e.length:Int))then if decide (0<=a)then if decide (a<(List.length (e.getD f.toNat []):Int))then if decide (0<=a)then if decide (a<(h.length:Int))then(S.a7h (((List.getD (e.getD f.toNat []) a.toNat (false,[],[])).1,(List.getD (e.getD f.toNat []) a.toNat (false,[],[])).2.1,(List.getD (e.getD f.toNat []) a.toNat (false,[],[])).2.2),((h.getD a.toNat (false,[],[])).1,(h.getD a.toNat (false,[],[])).2.1,(h.getD a.toNat (false,[],[])).2.2),())).bind fun y17=>(S.a4u ((d.1,d.2.1,d.2.2),(y17.1.1,y17.1.2.1,y17.1.2.2),())).bind fun y18=>if dup (List.map (fun(y19:Nat×Nat)=>y19.1) (hd0 i))then none else g15 (wrap .i64 (a+1),b,c,(y18.1.1,y18.1.2.1,y18.1.2.2),e,f,h,nrm (hd0 i) (in0 i),j,l,m,n,())else none else none else none else none else none else none else if dup (List.map (fun(y20:Nat×Nat)=>y20.1) (hd0 i))then none else g15 (wrap .i64 (a+1),b,c,(d.1,d.2.1,d.2.2),e,f,h,nrm (hd0 i) (in0 i),j,l,m,n,())else if decide (((j.length+(List.length [(d.1,d.2.1,d.2.2)]))*56)<=140737488355328)then if decide ((((List.length (hd0 i))+(List.length (hd0 [(j++[(d.1,d.2.1,d.2.2)],List.length (j++[(d.1,d.2.1,d.2.2)]))])))*24)<=140737488355328)then if dup (List.map (fun(y21:Nat×Nat)=>y21.1) (b2t (List.length (in0 i)) (hd0 i) (hd0 [(j++[(d.1,d.2.1,d.2.2)],List.length (j++[(d.1,d.2.1,d.2.2)]))])))then none else g2 (wrap .i64 (l+1),m,c,e,n,h,nrm (b2t (List.length (in0 i)) (hd0 i) (hd0 [(j++[(d.1,d.2.1,d.2.2)],List.length (j++[(d.1,d.2.1,d.2.2)]))])) ((in0 i)++[j++[(d.1,d.2.1,d.2.2)]]),())else none else none) x14.1 x14.2.1 x14.2.2.2.2.2.1 x14.2.2.2.2.2.2.2.2.2.1 x14.2.2.2.2.2.2.2.2.2.2.1 x14.2.2.1 x14.2.2.2.1 x14.2.2.2.2.1 x14.2.2.2.2.2.2.1 x14.2.2.2.2.2.2.2.2.1 x14.2.2.2.2.2.2.2.2.2.2.2.1 x14.2.2.2.2.2.2.2.1
abbrev P.a9m (k:Nat) (g2:s_l03Means.C->s_l03Means.D) (x5:s_l03Means.A) (g6:s_l03Means.A->s_l03Means.D):s_l03Means.D:=
 (fun(a b d f m n:Int) (c:List (List RB)) (e:List Int) (h i j:List RB) (l:List (List RB×Nat))=>if decide (a<b)then if decide (0<=d)then if decide (d<(c.length:Int))then if decide (0<=a)then if decide (a<(e.length:Int))then if decide (0<=(e.getD a.toNat 0))then if decide ((e.getD a.toNat 0)<(List.length (c.getD d.toNat []):Int))then(S.a2s (((List.getD (c.getD d.toNat []) (Int.toNat (e.getD a.toNat 0)) (false,[],[])).1,(List.getD (c.getD d.toNat []) (Int.toNat (e.getD a.toNat 0)) (false,[],[])).2.1,(List.getD (c.getD d.toNat []) (Int.toNat (e.getD a.toNat 0)) (false,[],[])).2.2),())).bind fun y7=>if f==a then(S.a7f ()).bind fun y8=>(S.a4u ((y7.1.1,y7.1.2.1,y7.1.2.2),(y8.1.1,y8.1.2.1,y8.1.2.2),())).bind fun y9=>if decide (((h.length+(List.length [(y9.1.1,y9.1.2.1,y9.1.2.2)]))*56)<=140737488355328)then if dup (List.map (fun(y10:Nat×Nat)=>y10.1) (hd0 l))then none else g6 (wrap .i64 (a+1),b,c,d,e,f,h++[(y9.1.1,y9.1.2.1,y9.1.2.2)],i,j,nrm (hd0 l) (in0 l),m,n,())else none else if decide (((h.length+(List.length [(y7.1.1,y7.1.2.1,y7.1.2.2)]))*56)<=140737488355328)then if dup (List.map (fun(y11:Nat×Nat)=>y11.1) (hd0 l))then none else g6 (wrap .i64 (a+1),b,c,d,e,f,h++[(y7.1.1,y7.1.2.1,y7.1.2.2)],i,j,nrm (hd0 l) (in0 l),m,n,())else none else none else none else none else none else none else none else if decide (0<=d)then if decide (d<(i.length:Int))then if dup (List.map (fun(y12:Nat×Nat)=>y12.1) (hd0 l))then none else loopP (P.a7o g2) k (0,(c.length:Int),e,((i.getD d.toNat (false,[],[])).1,(i.getD d.toNat (false,[],[])).2.1,(i.getD d.toNat (false,[],[])).2.2),c,d,j,nrm (hd0 l) (in0 l),h,m,n,i,())else none else none) x5.1 x5.2.1 x5.2.2.2.1 x5.2.2.2.2.2.1 x5.2.2.2.2.2.2.2.2.2.2.1 x5.2.2.2.2.2.2.2.2.2.2.2.1 x5.2.2.1 x5.2.2.2.2.1 x5.2.2.2.2.2.2.1 x5.2.2.2.2.2.2.2.1 x5.2.2.2.2.2.2.2.2.1 x5.2.2.2.2.2.2.2.2.2.1
abbrev P.b1o (x25:Int×Int×List RB×List Int×List RB×Unit) (g26:Int×Int×List RB×List Int×List RB×Unit->s_l03Means.D):s_l03Means.D:=
 (fun(a b:Int) (c e:List RB) (d:List Int)=>if decide (a<b)then if decide (0<=a)then if decide (a<(d.length:Int))then if decide (0<=a)then if decide (a<(e.length:Int))then if decide (0<=(d.getD a.toNat 0))then if decide ((d.getD a.toNat 0)<(c.length:Int))then g26 (wrap .i64 (a+1),b,c.set (0+(Int.toNat (d.getD a.toNat 0))) ((e.getD a.toNat (false,[],[])).1,(e.getD a.toNat (false,[],[])).2.1,(e.getD a.toNat (false,[],[])).2.2),d,e,())else none else none else none else none else none else none else some (c,())) x25.1 x25.2.1 x25.2.2.1 x25.2.2.2.2.1 x25.2.2.2.1
abbrev P.b3a (k:Nat) (x1:s_l03Means.C) (g2:s_l03Means.C->s_l03Means.D):s_l03Means.D:=
 if decide (x1.1<x1.2.1)then if decide (0<=x1.1)then if decide (x1.1<(x1.2.2.1.length:Int))then if dup (List.map (fun(y3:Nat×Nat)=>y3.1) (hd0 x1.2.2.2.2.2.2.1))then none else loopP (P.a9m k g2) k (0,(x1.2.2.1.length:Int),x1.2.2.2.1,x1.2.2.1.getD x1.1.toNat 0,x1.2.2.1,x1.1,[],x1.2.2.2.2.1,x1.2.2.2.2.2.1,nrm (hd0 x1.2.2.2.2.2.2.1) (in0 x1.2.2.2.2.2.2.1),x1.1,x1.2.1,())else none else none else if dup (List.map (fun(y22:Nat×Nat)=>y22.1) (hd0 x1.2.2.2.2.2.2.1))then none else(S.b3z (nrm (hd0 x1.2.2.2.2.2.2.1) (in0 x1.2.2.2.2.2.2.1),())).bind fun y23=>if decide (((0+x1.2.2.2.2.2.1.length)*56)<=140737488355328)then loopP P.b1o k (0,(x1.2.2.1.length:Int),[]++x1.2.2.2.2.2.1,x1.2.2.1,y23.1.1,())else none
def P.c5k (k:Nat) (x:List (List RB)×List Int×List RB×List RB×Unit):s_l03Means.D:=
 loopP (P.b3a k) k (0,(x.2.1.length:Int),x.2.1,x.1,x.2.2.1,x.2.2.2.1,nrm (hd0 ([]:List (List RB×Nat))) (in0 ([]:List (List RB×Nat))),())
theorem sme_one:S.a7f ()=some (rp B10 a6j,()):=by rfl
theorem sme_has {c:Nat->Bool} {n j:Nat} (hn:n<=12) (hj:j<n):S.a2q (zs (fl c n),(j:Int),())=some (c j,()):=by
 have hl:=b8c c n;unfold S.a2q;dsimp only;rw[if_pos (by rw[a5x];omega)];exact congrArg (fun b=>some (b,())) (cZ_fl hj)
theorem sme_opp {a:Q3} (ha:okq a):S.a2s (((rp B10 a).1,(rp B10 a).2.1,(rp B10 a).2.2),())=some (rp B10 (b6d a),()):=by
 have h:=(a6h.1 (b8e (B:=B10) (by decide) ha)).1;show S.a2s (rp B10 a,())=_;unfold S.a2s;dsimp only;rw[if_pos h,a3q a0d]
theorem sme_add {a b:Q3} (ha:okq a) (hb:okq b):S.a4u (((rp B10 a).1,(rp B10 a).2.1,(rp B10 a).2.2),((rp B10 b).1,(rp B10 b).2.1,(rp B10 b).2.2),())=some (rp B10 (b4b a b),()):=rs_add ha.1 ha.2 hb.1 hb.2 (Nat.le_refl _) (Nat.le_refl _)
theorem sme_mul {a b:Q3} (ha:okq a) (hb:okq b):S.a7h (((rp B10 a).1,(rp B10 a).2.1,(rp B10 a).2.2),((rp B10 b).1,(rp B10 b).2.1,(rp B10 b).2.2),())=some (rp B10 (c7m a b),()):=rs_mul ha.1 ha.2 hb.1 hb.2 (Nat.le_refl _) (Nat.le_refl _)
theorem zo_ok {f:Nat->Q3} (h:zo f) (i:Nat):okq (f i):=by
 rcases h i with q|q
 ·rw[q];exact c4h
 ·rw[q];exact e0k
theorem mulz_ok {q:Q3} (hq:okq q) {f:Nat->Q3} (h:zo f) (i:Nat):okq (c7m q (f i)):=by
 rcases h i with e|e
 ·rw[e,mul_zero hq.1];exact c4h
 ·rw[e,mul_one hq.1];exact hq
theorem sme_right {M:List (List Q3)} (h:b2a M) {c:Nat->Bool} {ow gv:Nat->Q3} (ho:zo ow) (hg:zo gv) {k:Nat} (hk:k<(fl c M.length).length) (g) {K:Nat} (hK:12<K):
  loopP (P.a7o g) K ((0:Int),(M.length:Int),zs (fl c M.length),rp B10 (ow ((fl c M.length).getD k 0)),mp B10 M,(((fl c M.length).getD k 0:Nat):Int),(tab M.length gv).map (rp B10),om B10 k ((fl c M.length).length+1) (meA M c ow gv),(tab (fl c M.length).length (meA M c ow gv k)).map (rp B10),(k:Int),((fl c M.length).length:Int),(tab M.length ow).map (rp B10),())=g (((k+1:Nat):Int),((fl c M.length).length:Int),zs (fl c M.length),mp B10 M,(tab M.length ow).map (rp B10),(tab M.length gv).map (rp B10),om B10 (k+1) ((fl c M.length).length+1) (meA M c ow gv),()):=by
 have hI:=h.2.1;have hn:=hI.1;have hfl:=b8c c M.length;have hi:=(b9c hk).1;have key:=a0f (k:=K) (b:=P.a7o g) (n:=M.length) (st:=fun j=>((j:Int),(M.length:Int),zs (fl c M.length),rp B10 (riQ M c ow gv ((fl c M.length).getD k 0) j),mp B10 M,(((fl c M.length).getD k 0:Nat):Int),(tab M.length gv).map (rp B10),om B10 k ((fl c M.length).length+1) (meA M c ow gv),(tab (fl c M.length).length (meA M c ow gv k)).map (rp B10),(k:Int),((fl c M.length).length:Int),(tab M.length ow).map (rp B10),())) (F:=fun _=>g (((k+1:Nat):Int),((fl c M.length).length:Int),zs (fl c M.length),mp B10 M,(tab M.length ow).map (rp B10),(tab M.length gv).map (rp B10),om B10 (k+1) ((fl c M.length).length+1) (meA M c ow gv),())) (fun j g' hj hg'=>by
  unfold P.a7o;dsimp only at hg' ⊢;generalize (fl c M.length).getD k 0=i at*;have e1:(j:Int)<(M.length:Int):=by omega
  have e2:(0:Int)<=(j:Int):=by omega
  have e3:(0:Int)<=(i:Int):=by omega
  have e4:(i:Int)<(M.length:Int):=by omega
  have e8:((mp B10 M).getD i []).getD j (false,(([]:List Int),([]:List Int)))=rp B10 (mq M i j):=d2m hI hi hj;have e9:((tab M.length gv).map (rp B10)).getD j (false,(([]:List Int),([]:List Int)))=rp B10 (gv j):=a4s hj _;have hm:okq (mq M i j):=okq_200 ⟨(c1k h hi hj).1,(c1k h hi hj).2.1⟩;have hs:riQ M c ow gv i (j+1)=if c j=true then riQ M c ow gv i j else b4b (riQ M c ow gv i j) (c7m (mq M i j) (gv j)):=rfl
  rw[hs]at hg';have e10:=sme_mul hm (zo_ok hg j);have e11:=sme_add (riQ_ok h (c:=c) ho hg hi (k:=j) (by omega)) (mulz_ok hm hg j);rw[if_pos (decide_eq_true e1),sme_has hn hj,Option.bind_some];dsimp only;simp only[Int.toNat_natCast,a2y,d2n hI hi,List.length_map,a0s,a1d,a1t,e1,e2,e3,e4,e8,e9,decide_true,if_true,Bool.false_eq_true,if_false];rw[wr (by omega) (by omega)];cases hc:c j
  ·rw[hc,if_neg (by decide)]at hg';rw[if_pos (by rfl),e10,Option.bind_some];dsimp only;rw[e11,Option.bind_some];exact hg'
  ·rw[hc,if_pos rfl]at hg';rw[if_neg (by decide)];exact hg') (fun g'=>by
  unfold P.a7o;dsimp only;have e1:((fl c M.length).length+1)*56<=140737488355328:=by omega
  have e3:(k+1)*24<=140737488355328:=by omega
  have e2:= @om_app B10 k ((fl c M.length).length+1) (meA M c ow gv);have hv:meA M c ow gv k (fl c M.length).length=riQ M c ow gv ((fl c M.length).getD k 0) M.length:=by
   unfold meA hA;rw[if_pos rfl]
  rw[<-a7y,hv]at e2;rw[if_neg (by simp),wr (by omega) (by omega)];have hlen:∀q:Bool×(List Int×List Int),((tab (fl c M.length).length (meA M c ow gv k)).map (rp B10)++[q]).length=(fl c M.length).length+1:=fun q=>by simp [a0s]
  have e4:∀q:Q3,((rp B10 q).1,(rp B10 q).2.1,(rp B10 q).2.2)=rp B10 q:=fun _=>rfl
  simp only[e4,hlen,a0t,a4h,List.length_map,a0s,List.length_cons,List.length_nil,Nat.zero_add,e1,e3,e2.1,e2.2,decide_true,if_true,Bool.false_eq_true,if_false];rfl) (by omega)
 exact key
theorem sme_row {M:List (List Q3)} (h:b2a M) {c:Nat->Bool} {ow gv:Nat->Q3} (ho:zo ow) (hg:zo gv) {k:Nat} (hk:k<(fl c M.length).length) (g) {K:Nat} (hK:12<K):
  loopP (P.a9m K g) K ((0:Int),((fl c M.length).length:Int),mp B10 M,(((fl c M.length).getD k 0:Nat):Int),zs (fl c M.length),(k:Int),([]:List (Bool×(List Int×List Int))),(tab M.length ow).map (rp B10),(tab M.length gv).map (rp B10),om B10 k ((fl c M.length).length+1) (meA M c ow gv),(k:Int),((fl c M.length).length:Int),())=g (((k+1:Nat):Int),((fl c M.length).length:Int),zs (fl c M.length),mp B10 M,(tab M.length ow).map (rp B10),(tab M.length gv).map (rp B10),om B10 (k+1) ((fl c M.length).length+1) (meA M c ow gv),()):=by
 have hI:=h.2.1;have hn:=hI.1;have hfl:=b8c c M.length;have hi:=(b9c hk).1;have key:=a0f (k:=K) (b:=P.a9m K g) (n:=(fl c M.length).length) (st:=fun r=>((r:Int),((fl c M.length).length:Int),mp B10 M,(((fl c M.length).getD k 0:Nat):Int),zs (fl c M.length),(k:Int),(tab r (meA M c ow gv k)).map (rp B10),(tab M.length ow).map (rp B10),(tab M.length gv).map (rp B10),om B10 k ((fl c M.length).length+1) (meA M c ow gv),(k:Int),((fl c M.length).length:Int),())) (F:=fun _=>g (((k+1:Nat):Int),((fl c M.length).length:Int),zs (fl c M.length),mp B10 M,(tab M.length ow).map (rp B10),(tab M.length gv).map (rp B10),om B10 (k+1) ((fl c M.length).length+1) (meA M c ow gv),())) (fun r g' hr hg'=>by
  unfold P.a9m;dsimp only at hg' ⊢;have hj:=(b9c hr).1;have hv:meA M c ow gv k r=if k=r then b4b (b6d (leN M false c k r)) a6j else b6d (leN M false c k r):=hA_at _ _ _ _ hr
  have hl:leN M false c k r=mq M ((fl c M.length).getD k 0) ((fl c M.length).getD r 0):=by
   unfold leN;rw[if_neg (by decide)];rfl
  have hok:=leN_ok h (tu:=false) hk hr;rw[hl]at hv hok;generalize (fl c M.length).getD k 0=i at*;have e1:(r:Int)<((fl c M.length).length:Int):=by omega
  have e2:(0:Int)<=(r:Int):=by omega
  have e3:(0:Int)<=(i:Int):=by omega
  have e4:(i:Int)<(M.length:Int):=by omega
  have e5:(0:Int)<=(((fl c M.length).getD r 0:Nat):Int):=by omega
  have e6:(((fl c M.length).getD r 0:Nat):Int)<(M.length:Int):=by omega
  have e7:(r+1)*56<=140737488355328:=by omega
  have e8:((mp B10 M).getD i []).getD ((fl c M.length).getD r 0) (false,(([]:List Int),([]:List Int)))=rp B10 (mq M i ((fl c M.length).getD r 0)):=d2m hI hi hj;have e9:∀q:Q3,((rp B10 q).1,(rp B10 q).2.1,(rp B10 q).2.2)=rp B10 q:=fun _=>rfl
  rw[<-a7y,hv]at hg';simp only[a5x,b6e,Int.toNat_natCast,a2y,d2n hI hi,List.length_map,a0s,List.length_cons,List.length_nil,Nat.zero_add,a1d,a1t,e1,e2,e3,e4,e5,e6,e7,e8,decide_true,if_true,Bool.false_eq_true,if_false];rw[sme_opp hok.1,Option.bind_some,wr (by omega) (by omega)];dsimp only
  by_cases hkr:k=r
  ·rw[if_pos hkr]at hg';rw[if_pos (by rw[beq_iff_eq];omega),sme_one,Option.bind_some,sme_add hok.2 e0k,Option.bind_some];exact hg'
  ·rw[if_neg hkr]at hg';rw[if_neg (by rw[beq_iff_eq];omega)];exact hg') (fun g'=>by
  unfold P.a9m;dsimp only;have e3:(0:Int)<=(((fl c M.length).getD k 0:Nat):Int):=by omega
  have e4:(((fl c M.length).getD k 0:Nat):Int)<(M.length:Int):=by omega
  have e9:((tab M.length ow).map (rp B10)).getD ((fl c M.length).getD k 0) (false,(([]:List Int),([]:List Int)))=rp B10 (ow ((fl c M.length).getD k 0)):=a4s hi _;rw[if_neg (by simp)];simp only[Int.toNat_natCast,a2y,List.length_map,a0s,a1d,a1t,e3,e4,e9,decide_true,if_true,Bool.false_eq_true,if_false];exact sme_right h ho hg hk g hK) (by omega)
 exact key
open Classical in
def S.a6y (x:((List (List RB))×((List Int)×((List RB)×((List RB)×Unit))))):(Option ((List RB)×Unit)):=if ∃M,b2a M/\x.1=mp B10 M/\x.2.1=zs (fl (cZ x.2.1) M.length)/\x.2.2.1=(tab M.length (zoL x.2.2.1)).map (rp B10)/\x.2.2.2.1=(tab M.length (zoL x.2.2.2.1)).map (rp B10)/\b6r M (cZ x.2.1)then some ((meL (mv B10 x.1) (cZ x.2.1) (zoL x.2.2.1) (zoL x.2.2.2.1)).map (rp B10),())else none
theorem S.d8n (x r) (h:S.a6y x=some r):∃k,P.c5k k x=some r:=by
 obtain⟨m,L,W,G,u⟩:=x;unfold S.a6y at h;dsimp only at h;split at h
 case isFalse=>cases h
 rename_i hc;obtain⟨M,hM,rfl,hL,hW,hG,hw⟩:=hc;rw[b8s (by decide)]at h;have ho:=zoL_zo W;have hg:=zoL_zo G;generalize zoL W=ow at*;generalize zoL G=gv at*;generalize cZ L=c at*;subst hL hW hG;cases h;have hI:=hM.2.1;have hn:=hI.1;have hfl:=b8c c M.length;refine⟨13,?_⟩;unfold P.c5k;dsimp only;rw[a5x];have key:=a0f (k:=13) (b:=P.b3a 13) (n:=(fl c M.length).length) (st:=fun k=>((k:Int),((fl c M.length).length:Int),zs (fl c M.length),mp B10 M,(tab M.length ow).map (rp B10),(tab M.length gv).map (rp B10),om B10 k ((fl c M.length).length+1) (meA M c ow gv),())) (F:=fun _=>some ((meL M c ow gv).map (rp B10),())) (fun k g hk hg'=>by
  unfold P.b3a;dsimp only at hg' ⊢;have e1:(k:Int)<((fl c M.length).length:Int):=by omega
  have e2:(0:Int)<=(k:Int):=by omega
  simp only[a5x,b6e,Int.toNat_natCast,a1d,a1t,e1,e2,decide_true,if_true,Bool.false_eq_true,if_false];rw[<-hg'];exact sme_row hM ho hg hk g (by decide)) (fun g=>by
  unfold P.b3a;dsimp only;have e3:M.length*56<=140737488355328:=by omega
  rw[if_neg (by simp),a1d,a1t,if_neg (by decide),solve_s (me_els hM ho hg hw),Option.bind_some];simp only[a5x,Nat.zero_add,List.length_map,a0s,List.nil_append,e3,decide_true,if_true];have key2:=a0f (k:=13) (b:=P.b1o) (n:=(fl c M.length).length) (st:=fun a=>((a:Int),((fl c M.length).length:Int),(puts M.length c (solS (meA M c ow gv) (fl c M.length).length) gv a).map (rp B10),zs (fl c M.length),(tab (fl c M.length).length (solS (meA M c ow gv) (fl c M.length).length)).map (rp B10),())) (F:=fun _=>some ((meL M c ow gv).map (rp B10),())) (fun a g' ha hg'=>by
   unfold P.b1o;dsimp only at hg' ⊢;obtain⟨q1,q2⟩:=b9c ha;have e1:(a:Int)<((fl c M.length).length:Int):=by omega
   have e2:(0:Int)<=(a:Int):=by omega
   have e5:(0:Int)<=(((fl c M.length).getD a 0:Nat):Int):=by omega
   have e6:(((fl c M.length).getD a 0:Nat):Int)<(M.length:Int):=by omega
   simp only[a5x,b6e,Int.toNat_natCast,List.length_map,a0s,e0h,a4s ha,Nat.zero_add,e1,e2,e5,e6,decide_true,if_true];rw[wr (by omega) (by omega)];rw[<-e0g ha]at hg';exact hg') (fun g'=>by
   unfold P.b1o;dsimp only;rw[if_neg (by simp),e0f];rfl) (by omega)
  rw[d2o]at key2;exact key2) (by omega)
 exact key
abbrev P.a5l (x1:Int×List Int×Bool×Int×List Int×Unit) (g2:Int×List Int×Bool×Int×List Int×Unit->Option (List Int×Unit)):Option (List Int×Unit):=
 (fun(a d:Int) (b e:List Int) (c:Bool)=>if decide (a<(b.length:Int))then if !c then if decide (0<=a)then if decide (a<(b.length:Int))then if decide ((b.getD a.toNat 0)>=d)then if decide (0<=a)then if decide (a<(b.length:Int))then if decide ((b.getD a.toNat 0)>d)then if decide (((e.length+(List.length [d]))*8)<=140737488355328)then if decide (0<=a)then if decide (a<(b.length:Int))then if decide ((((List.length (e++[d]))+(List.length [b.getD a.toNat 0]))*8)<=140737488355328)then g2 (wrap .i64 (a+1),b,true,d,(e++[d])++[b.getD a.toNat 0],())else none else none else none else none else if decide (0<=a)then if decide (a<(b.length:Int))then if decide (((e.length+(List.length [b.getD a.toNat 0]))*8)<=140737488355328)then g2 (wrap .i64 (a+1),b,true,d,e++[b.getD a.toNat 0],())else none else none else none else none else none else if decide (0<=a)then if decide (a<(b.length:Int))then if decide (((e.length+(List.length [b.getD a.toNat 0]))*8)<=140737488355328)then g2 (wrap .i64 (a+1),b,c,d,e++[b.getD a.toNat 0],())else none else none else none else none else none else if decide (0<=a)then if decide (a<(b.length:Int))then if decide (((e.length+(List.length [b.getD a.toNat 0]))*8)<=140737488355328)then g2 (wrap .i64 (a+1),b,c,d,e++[b.getD a.toNat 0],())else none else none else none else if !c then if decide (((e.length+(List.length [d]))*8)<=140737488355328)then some (e++[d],())else none else some (e,())) x1.1 x1.2.2.2.1 x1.2.1 x1.2.2.2.2.1 x1.2.2.1
def P.d8o (k:Nat) (x:List Int×Int×Unit):Option (List Int×Unit):=
 loopP P.a5l k (0,x.1,false,x.2.1,[],())
def S.c0t (x:((List Int)×(Int×Unit))):(Option ((List Int)×Unit)):=if x.1.length<=1000000 then some (putL x.1 x.2.1,())else none
theorem S.s_l00Put_ok (x r) (h:S.c0t x=some r):∃k,P.d8o k x=some r:=by
 obtain⟨xs,n,u⟩:=x;unfold S.c0t at h;dsimp only at h;split at h
 case isFalse=>cases h
 rename_i hc;cases h;refine⟨xs.length+1,?_⟩;unfold P.d8o;dsimp only;have all:∀m i k out,i+m=xs.length->m<k->out.length<=i+1->loopP P.a5l k ((i:Int),xs,true,n,out,())=some (out++xs.drop i,()):=by
  intro m
  induction m with
  |zero=>
   intro i k out hi hk _;cases k with
   |zero=>omega
   |succ k=>
    rw[a0l];unfold P.a5l;dsimp only;rw[if_neg (by simp;omega),List.drop_of_length_le (by omega),List.append_nil];rfl
  |succ m ih=>
   intro i k out hi hk ho;cases k with
   |zero=>omega
   |succ k=>
    have hi':i<xs.length:=by omega
    have e1:(i:Int)<(xs.length:Int):=by omega
    have e2:(0:Int)<=(i:Int):=by omega
    have e3:(out.length+1)*8<=140737488355328:=by omega
    have:=ih (i+1) k (out++[xs[i]]) (by omega) (by omega) (by simp;omega);rw[a0l];generalize loopP P.a5l k=G at this ⊢;unfold P.a5l;dsimp only;simp only[e1,e2,e3,decide_true,if_true,Bool.not_true,Bool.false_eq_true,if_false,List.length_cons,List.length_nil,Nat.zero_add];rw[a0o xs i _ hi',wr (by omega) (by omega)];rw[List.drop_eq_getElem_cons hi'];rw[List.append_assoc]at this;exact this
 have key:∀m i k,i+m=xs.length->m<k->loopP P.a5l k ((i:Int),xs,false,n,xs.take i,())=some (xs.take i++putL (xs.drop i) n,()):=by
  intro m
  induction m with
  |zero=>
   intro i k hi hk;cases k with
   |zero=>omega
   |succ k=>
    have e3:((xs.take i).length+1)*8<=140737488355328:=by rw[List.length_take];omega
    rw[a0l];unfold P.a5l;dsimp only;rw[if_neg (by simp;omega),if_pos (show(!false)=true from rfl),List.drop_of_length_le (by omega)];simp only[List.length_cons,List.length_nil,Nat.zero_add,e3,decide_true,if_true];rfl
  |succ m ih=>
   intro i k hi hk;cases k with
   |zero=>omega
   |succ k=>
    have hi':i<xs.length:=by omega
    have e1:(i:Int)<(xs.length:Int):=by omega
    have e2:(0:Int)<=(i:Int):=by omega
    have hl:(xs.take i).length=i:=by rw[List.length_take];omega
    have e3:(i+1)*8<=140737488355328:=by omega
    have e4:(i+1+1)*8<=140737488355328:=by omega
    have t1:=all m (i+1) k ((xs.take i++[n])++[xs[i]]) (by omega) (by omega) (by simp;omega);have t2:=all m (i+1) k (xs.take i++[xs[i]]) (by omega) (by omega) (by simp;omega);have t3:=ih (i+1) k (by omega) (by omega);rw[a0l];generalize loopP P.a5l k=G at t1 t2 t3 ⊢;unfold P.a5l;dsimp only;simp only[e1,e2,e3,e4,hl,decide_true,if_true,Bool.not_false,List.length_append,List.length_cons,List.length_nil,Nat.zero_add];rw[a0o xs i _ hi',wr (by omega) (by omega),List.drop_eq_getElem_cons hi',putL]
    by_cases h1:n<=xs[i]
    ·rw[if_pos (decide_eq_true h1),if_pos h1]
     by_cases h2:n<xs[i]
     ·rw[if_pos (decide_eq_true h2),if_pos h2];refine Eq.trans t1 ?_;simp
     ·rw[if_neg (by simpa using h2),if_neg h2];refine Eq.trans t2 ?_;simp
    ·rw[if_neg (by simpa using h1),if_neg h1];rw[<-List.take_append_getElem hi',List.append_assoc]at t3;exact t3
 have:=key xs.length 0 (xs.length+1) (by omega) (by omega);simpa using this
abbrev s_l03Reach.A:=Int×List Int×List (List RB)×List Int×Unit
abbrev s_l03Reach.B:=Option (List Int×Unit)
abbrev P.a9n (g2:s_l03Reach.A->s_l03Reach.B) (x4:Int×Int×List (List RB)×List Int×Int×List Int×Unit) (g5:Int×Int×List (List RB)×List Int×Int×List Int×Unit->s_l03Reach.B):s_l03Reach.B:=
 (fun(a b e:Int) (c:List (List RB)) (d f:List Int)=>if decide (a<b)then if decide (0<=e)then if decide (e<(d.length:Int))then if decide (0<=(d.getD (0+e.toNat) 0))then if decide ((d.getD (0+e.toNat) 0)<(c.length:Int))then if decide (0<=a)then if decide (a<(List.length (c.getD (Int.toNat (d.getD (0+e.toNat) 0)) []):Int))then(S.b0g (((List.getD (c.getD (Int.toNat (d.getD (0+e.toNat) 0)) []) a.toNat (false,[],[])).1,(List.getD (c.getD (Int.toNat (d.getD (0+e.toNat) 0)) []) a.toNat (false,[],[])).2.1,(List.getD (c.getD (Int.toNat (d.getD (0+e.toNat) 0)) []) a.toNat (false,[],[])).2.2),())).bind fun y6=>if !y6.1 then(S.a2q (f,a,())).bind fun y7=>if !y7.1 then(S.c0t (f,a,())).bind fun y8=>if decide (((d.length+(List.length [a]))*8)<=140737488355328)then g5 (wrap .i64 (a+1),b,c,d++[a],e,y8.1,())else none else g5 (wrap .i64 (a+1),b,c,d,e,f,())else g5 (wrap .i64 (a+1),b,c,d,e,f,())else none else none else none else none else none else none else g2 (wrap .i64 (e+1),d,c,f,())) x4.1 x4.2.1 x4.2.2.2.2.1 x4.2.2.1 x4.2.2.2.1 x4.2.2.2.2.2.1
abbrev P.a9o (k:Nat) (x1:s_l03Reach.A) (g2:s_l03Reach.A->s_l03Reach.B):s_l03Reach.B:=
 if decide (x1.1<(x1.2.1.length:Int))then loopP (P.a9n g2) k (0,(x1.2.2.1.length:Int),x1.2.2.1,x1.2.1,x1.1,x1.2.2.2.1,())else some (x1.2.2.2.1,())
def P.c5l (k:Nat) (x:List (List RB)×Int×Unit):s_l03Reach.B:=
 loopP (P.a9o k) k (0,[x.2.1],x.1,[x.2.1],())
theorem zero_rp (q:Q3):S.b0g (((rp B10 q).1,(rp B10 q).2.1,(rp B10 q).2.2),())=some (decide (q.2.1=0),()):=by
 unfold S.b0g P.b9y rp;dsimp only;congr 2;rw[Bool.eq_iff_iff,beq_iff_eq,decide_eq_true_iff,<-d4g (B:=B10) (by decide),<-List.length_eq_zero_iff];omega
theorem reS_inner {M:List (List Q3)} (hM:isM M) {i:Nat} (hi:i<M.length) (pre:List Nat) {sn:List Bool} {td:List Nat} (hb:Bok M.length (sn,td)) (hm:pre.length+td.length+sn.count false<=1000000)
  (g) {K:Nat} (hK:M.length<K):
  loopP (P.a9n g) K ((0:Int),(M.length:Int),mp B10 M,zs (pre++i::td),(pre.length:Int),b7c 0 sn,())=g (((pre.length+1:Nat):Int),zs (pre++i::(b5d (adj M i) M.length (sn,td)).2),mp B10 M,b7c 0 (b5d (adj M i) M.length (sn,td)).1,()):=by
 have hrow:=c3e hM hi;have hn:=hM.1;have key:=a0f (k:=K) (b:=P.a9n g) (n:=M.length) (st:=fun j=>((j:Int),(M.length:Int),mp B10 M,zs (pre++i::((List.range j).foldl (b0q (adj M i)) (sn,td)).2),(pre.length:Int),b7c 0 ((List.range j).foldl (b0q (adj M i)) (sn,td)).1,())) (F:=fun _=>g (((pre.length+1:Nat):Int),zs (pre++i::(b5d (adj M i) M.length (sn,td)).2),mp B10 M,b7c 0 (b5d (adj M i) M.length (sn,td)).1,())) (fun j g' hj hg=>by
  unfold P.a9n;dsimp only at hg ⊢;obtain⟨b1,b2⟩:=b8t (a:=adj M i) hb j (by omega);rw[c5b]at hg;generalize (List.range j).foldl (b0q (adj M i)) (sn,td)=s at b1 b2 hg ⊢;have b3:s.2.length<=td.length+sn.count false:=by
   dsimp only at b2;omega
  have e0:(zs (pre++i::s.2)).length=pre.length+s.2.length+1:=by simp [zs];omega
  have e1:(j:Int)<(M.length:Int):=by omega
  have e2:(0:Int)<=(j:Int):=by omega
  have e3:(zs (pre++i::s.2)).getD (0+Int.toNat (pre.length:Int)) 0=(i:Int):=by
   rw[b6e,Nat.zero_add,Int.toNat_natCast,List.getD_eq_getElem?_getD,List.getElem?_append_right (Nat.le_refl _)];simp
  have e4:(0:Int)<=(pre.length:Int):=by omega
  have e5:(pre.length:Int)<((pre.length+s.2.length+1:Nat):Int):=by omega
  have e6:(0:Int)<=(i:Int):=by omega
  have e7:(i:Int)<((mp B10 M).length:Int):=by rw[a2y];omega
  have e8:(pre.length+s.2.length+1+1)*8<=140737488355328:=by omega
  have e9:(((M.getD i []).map (rp B10)).length:Int)=(M.length:Int):=by rw[List.length_map,hrow.1]
  have pl:=posF_len 0 s.1;have bl:s.1.length=M.length:=b1.len;have eh:S.a2q (b7c 0 s.1,(j:Int),())=some (s.1.getD j false,()):=by
   unfold S.a2q;dsimp only;have:=posF_mem 0 s.1 j;rw[Int.zero_add]at this;rw[if_pos (by omega),this]
  have ep:S.c0t (b7c 0 s.1,(j:Int),())=some (b7c 0 (s.1.set j true),()):=by
   unfold S.c0t;dsimp only;have:=e2n 0 s.1 j (by omega);rw[Int.zero_add]at this;rw[if_pos (by omega),this]
  rw[e0,e3,Int.toNat_natCast,mp_at hi,Int.toNat_natCast,getD_rp B10 (by rw[hrow.1];exact hj),zero_rp,Option.bind_some];simp only[e1,e2,e4,e5,e6,e7,e8,e9,decide_true,if_true,List.length_cons,List.length_nil,Nat.zero_add];rw[eh,ep,wr (by omega) (by omega)];simp only[Option.bind_some];have ha':(!decide (((M.getD i []).getD j a0q).2.1=0))=adj M i j:=by
   unfold adj;simp
  rw[ha'];unfold b0q at hg;cases ha:adj M i j
  ·rw[ha,if_neg (by simp)]at hg;rw[if_neg (by decide)];exact hg
  ·rw[if_pos rfl];cases hs:s.1.getD j false
   ·rw[ha,hs,if_pos ⟨rfl,rfl⟩]at hg;rw[if_pos (by decide),<-hg];simp [zs]
   ·rw[ha,hs,if_neg (by simp)]at hg;rw[if_neg (by decide)];exact hg) (fun g'=>by
  unfold P.a9n;dsimp only;rw[if_neg (by simp),wr (by omega) (by omega)];rfl) hK
 exact key
theorem reS_outer {M:List (List Q3)} (hM:isM M) {K:Nat} (hK:M.length<K):∀(f k:Nat) (pre:List Nat) (sn:List Bool) (td:List Nat),Bok M.length (sn,td)->td.length+sn.count false<=f->f<k->pre.length+f<=1000000->loopP (P.a9o K) k ((pre.length:Int),zs (pre++td),mp B10 M,b7c 0 sn,())=some (b7c 0 (bfs (adj M) M.length f sn td),()):=by
 intro f
 induction f with
 |zero=>
  intro k pre sn td hb hm hk hf;cases k with
  |zero=>omega
  |succ k=>
   have:td=[]:=List.eq_nil_of_length_eq_zero (by omega);subst this;rw[a0l];unfold P.a9o;dsimp only;rw[if_neg (by simp [zs])];rfl
 |succ f ih=>
  intro k pre sn td hb hm hk hf;cases k with
  |zero=>omega
  |succ k=>
   rw[a0l];cases td with
   |nil=>
    unfold P.a9o;dsimp only;rw[if_neg (by simp [zs])];rfl
   |cons i r=>
    have hi:i<M.length:=hb.lt i (List.mem_cons_self ..);have hb':Bok M.length (sn,r):=⟨hb.len,fun t ht=>hb.lt t (List.mem_cons_of_mem _ ht)⟩
    have hm':r.length+sn.count false<=f:=by
     rw[List.length_cons]at hm;omega
    unfold P.a9o;dsimp only;rw[if_pos (decide_eq_true (by simp [zs];omega)),a2y,reS_inner hM hi pre hb' (by omega) _ hK,bfs];obtain⟨c1,c2⟩:=b8t (a:=adj M i) hb' M.length (Nat.le_refl _);have:=ih k (pre++[i]) _ _ c1 (by
     have:(b5d (adj M i) M.length (sn,r)).2.length+(b5d (adj M i) M.length (sn,r)).1.count false=r.length+sn.count false:=c2;exact Nat.le_trans (Nat.le_of_eq this) hm') (by omega) (by simp;omega)
    rw[List.append_assoc,List.length_append]at this;exact this
open Classical in
def S.b3r (x:((List (List RB))×(Int×Unit))):(Option ((List Int)×Unit)):=if(∃M,isM M/\x.1=mp B10 M)/\0<=x.2.1/\x.2.1<(x.1.length:Int)then some (b7c 0 (b4z (adj (mv B10 x.1)) x.1.length x.2.1.toNat),())else none
theorem S.d8p (x r) (h:S.b3r x=some r):∃k,P.c5l k x=some r:=by
 obtain⟨m,s,u⟩:=x;unfold S.b3r at h;dsimp only at h;split at h
 case isFalse=>cases h
 rename_i hc;obtain⟨⟨M,hM,rfl⟩,h0,h1⟩:=hc;cases h;obtain⟨s,rfl⟩:=Int.eq_ofNat_of_zero_le h0;rw[b8s (by decide),a2y]at*;have hs:s<M.length:=by omega
 have hn:=hM.1;refine⟨M.length+1,?_⟩;unfold P.c5l;dsimp only;obtain⟨c1,c2⟩:=d0g hs;have:=reS_outer hM (K:=M.length+1) (by omega) M.length (M.length+1) [] _ [s] c1 (by omega) (by omega) (by simp;omega);rw[posF_start hs]at this;exact this
abbrev s_l03Inner.A:=Int×Int×List Int×List Int×List Int×Int×Int×Int×List (List RB)×Unit
abbrev s_l03Inner.B:=Int×Int×List Int×List (List RB)×List Int×Unit
abbrev s_l03Inner.C:=Option (List Int×Unit)
abbrev P.a9p (g2:s_l03Inner.B->s_l03Inner.C) (x6:s_l03Inner.A) (g7:s_l03Inner.A->s_l03Inner.C):s_l03Inner.C:=
 (fun(a b f h i:Int) (c d e:List Int) (j:List (List RB))=>if decide (a<b)then if decide (0<=a)then if decide (a<(d.length:Int))then(S.a2q (c,d.getD a.toNat 0,())).bind fun y8=>if y8.1 then if decide (((e.length+(List.length [f]))*8)<=140737488355328)then g2 (wrap .i64 (h+1),i,c,j,e++[f],())else none else g7 (wrap .i64 (a+1),b,c,d,e,f,h,i,j,())else none else none else g2 (wrap .i64 (h+1),i,c,j,e,())) x6.1 x6.2.1 x6.2.2.2.2.2.1 x6.2.2.2.2.2.2.1 x6.2.2.2.2.2.2.2.1 x6.2.2.1 x6.2.2.2.1 x6.2.2.2.2.1 x6.2.2.2.2.2.2.2.2.1
abbrev P.b3b (k:Nat) (x1:s_l03Inner.B) (g2:s_l03Inner.B->s_l03Inner.C):s_l03Inner.C:=
 if decide (x1.1<x1.2.1)then(S.a2q (x1.2.2.1,x1.1,())).bind fun y3=>if y3.1 then g2 (wrap .i64 (x1.1+1),x1.2.1,x1.2.2.1,x1.2.2.2.1,x1.2.2.2.2.1,())else(S.b3r (x1.2.2.2.1,x1.1,())).bind fun y4=>loopP (P.a9p g2) k (0,(y4.1.length:Int),x1.2.2.1,y4.1,x1.2.2.2.2.1,x1.1,x1.1,x1.2.1,x1.2.2.2.1,())else some (x1.2.2.2.2.1,())
def P.c5m (k:Nat) (x:List (List RB)×List Int×Unit):s_l03Inner.C:=
 loopP (P.b3b k) k (0,(x.1.length:Int),x.2.1,x.1,[],())
theorem sin_reach {M:List (List Q3)} (hM:isM M) {i:Nat} (hi:i<M.length):S.b3r (mp B10 M,(i:Int),())=some (zs (fl (rcB M i) M.length),()):=by
 have h:=posF_fl 0 (b4z (adj M) M.length i);rw[c7s hi]at h;unfold S.b3r;dsimp only;rw[if_pos ⟨⟨M,hM,rfl⟩,by omega,by rw[a2y];omega⟩,b8s (by decide),a2y,Int.toNat_natCast,h];rfl
theorem sin_has {ts:List Int} (h:ts.length<=1000000) (j:Nat):S.a2q (ts,(j:Int),())=some (tgF ts j,()):=by
 unfold S.a2q;dsimp only;rw[if_pos h];rfl
theorem sin_inner {M:List (List Q3)} (hM:isM M) {i:Nat} (hi:i<M.length) {ts:List Int} (ht:ts.length<=1000000) (hti:tgF ts i=false) (L:List Nat) (hL:L.length<=12) (g) {K:Nat} (hK:12<K):
  loopP (P.a9p g) K ((0:Int),((fl (rcB M i) M.length).length:Int),ts,zs (fl (rcB M i) M.length),zs L,(i:Int),(i:Int),(M.length:Int),mp B10 M,())=g (((i+1:Nat):Int),(M.length:Int),ts,mp B10 M,zs (L++if inC M (tgF ts) i=true then [i]else []),()):=by
 have hn:=hM.1;have hl:=b8c (rcB M i) M.length;have hc:inC M (tgF ts) i=(fl (rcB M i) M.length).any (tgF ts):=by
  unfold inC fl;rw[hti,List.any_filter];rfl
 rw[hc];have key:=a0f (k:=K) (b:=P.a9p g) (n:=(fl (rcB M i) M.length).length) (st:=fun a=>((a:Int),((fl (rcB M i) M.length).length:Int),ts,zs (fl (rcB M i) M.length),zs L,(i:Int),(i:Int),(M.length:Int),mp B10 M,())) (F:=fun a=>g (((i+1:Nat):Int),(M.length:Int),ts,mp B10 M,zs (L++if((fl (rcB M i) M.length).drop a).any (tgF ts)=true then [i]else []),())) (fun a g' ha hg=>by
  unfold P.a9p;dsimp only at hg ⊢;have e1:(a:Int)<((fl (rcB M i) M.length).length:Int):=by omega
  have e2:(0:Int)<=(a:Int):=by omega
  have e3:(L.length+1)*8<=140737488355328:=by omega
  have e4:(fl (rcB M i) M.length).getD a 0=(fl (rcB M i) M.length)[a]:=by simp [List.getD_eq_getElem?_getD,ha]
  simp only[a5x,b6e,Int.toNat_natCast,List.length_cons,List.length_nil,Nat.zero_add,e1,e2,e3,decide_true,if_true];rw[sin_has ht,Option.bind_some,e4,List.drop_eq_getElem_cons ha,List.any_cons];cases tgF ts (fl (rcB M i) M.length)[a]
  ·rw[if_neg (by decide),Bool.false_or,wr (by omega) (by omega)];exact hg
  ·rw[if_pos rfl,Bool.true_or,if_pos rfl,wr (by omega) (by omega),c0o];rfl) (fun g'=>by
  unfold P.a9p;dsimp only;rw[if_neg (by simp),List.drop_length,wr (by omega) (by omega),List.any_nil,if_neg (by decide),List.append_nil];rfl) (by omega)
 rw[List.drop_zero]at key;exact key
open Classical in
def S.b3s (x:((List (List RB))×((List Int)×Unit))):(Option ((List Int)×Unit)):=if(∃M,isM M/\x.1=mp B10 M)/\x.2.1.length<=1000000 then some (zs (fl (inC (mv B10 x.1) (tgF x.2.1)) x.1.length),())else none
theorem S.d8q (x r) (h:S.b3s x=some r):∃k,P.c5m k x=some r:=by
 obtain⟨m,ts,u⟩:=x;unfold S.b3s at h;dsimp only at h;split at h
 case isFalse=>cases h
 rename_i hc;obtain⟨⟨M,hM,rfl⟩,ht⟩:=hc;rw[b8s (by decide),a2y]at h;cases h;have hn:=hM.1;refine⟨13,?_⟩;unfold P.c5m;dsimp only;rw[a2y];exact a0f (k:=13) (b:=P.b3b 13) (n:=M.length) (st:=fun i=>((i:Int),(M.length:Int),ts,mp B10 M,zs (fl (inC M (tgF ts)) i),())) (F:=fun _=>some (zs (fl (inC M (tgF ts)) M.length),())) (fun i g hi hg=>by
  unfold P.b3b;dsimp only at hg ⊢;have e1:(i:Int)<(M.length:Int):=by omega
  have hli:=b8c (inC M (tgF ts)) i;rw[b8u]at hg;rw[if_pos (decide_eq_true e1),sin_has ht,Option.bind_some];dsimp only;cases hti:tgF ts i
  ·rw[if_neg (by decide),sin_reach hM hi,Option.bind_some,<-hg];dsimp only;rw[a5x];exact sin_inner hM hi ht hti (fl (inC M (tgF ts)) i) (by omega) g (by decide)
  ·have hcf:inC M (tgF ts) i=false:=by
    unfold inC;rw[hti];rfl
   rw[hcf,if_neg (by decide),List.append_nil]at hg;rw[if_pos rfl,wr (by omega) (by omega)];exact hg) (fun g=>by
  unfold P.b3b;dsimp only;rw[if_neg (by simp)]) (by omega)
abbrev s_l03Hits.A:=Int×Int×List RB×List Int×List RB×List (List RB)×Unit
abbrev P.b5h (x1:s_l03Hits.A) (g2:s_l03Hits.A->Option (List RB×Unit)):Option (List RB×Unit):=
 (fun(a b:Int) (c e:List RB) (d:List Int) (f:List (List RB))=>if decide (a<b)then(S.a4y ()).bind fun y3=>if decide (((c.length+(List.length [(y3.1.1,y3.1.2.1,y3.1.2.2)]))*56)<=140737488355328)then(S.a2q (d,a,())).bind fun y4=>if y4.1 then(S.a7f ()).bind fun y5=>if decide (((e.length+(List.length [(y5.1.1,y5.1.2.1,y5.1.2.2)]))*56)<=140737488355328)then g2 (wrap .i64 (a+1),b,c++[(y3.1.1,y3.1.2.1,y3.1.2.2)],d,e++[(y5.1.1,y5.1.2.1,y5.1.2.2)],f,())else none else(S.a4y ()).bind fun y6=>if decide (((e.length+(List.length [(y6.1.1,y6.1.2.1,y6.1.2.2)]))*56)<=140737488355328)then g2 (wrap .i64 (a+1),b,c++[(y3.1.1,y3.1.2.1,y3.1.2.2)],d,e++[(y6.1.1,y6.1.2.1,y6.1.2.2)],f,())else none else none else(S.b3s (f,d,())).bind fun y7=>(S.a6y (f,y7.1,c,e,())).bind fun y8=>some (y8.1,())) x1.1 x1.2.1 x1.2.2.1 x1.2.2.2.2.1 x1.2.2.2.1 x1.2.2.2.2.2.1
def P.d0u (k:Nat) (x:List (List RB)×List Int×Unit):Option (List RB×Unit):=
 loopP P.b5h k (0,(x.1.length:Int),[],x.2.1,[],x.1,())
theorem shi_has {ts:List Int} (h:ts.length<=1000000) (j:Nat):S.a2q (ts,(j:Int),())=some (tgF ts j,()):=by
 unfold S.a2q;dsimp only;rw[if_pos h];rfl
theorem shi_one:S.a7f ()=some (rp B10 a6j,()):=by rfl
theorem shi_none:S.a4y ()=some (rp B10 a0q,()):=by rfl
open Classical in
def S.b6l (x:((List (List RB))×((List Int)×Unit))):(Option ((List RB)×Unit)):=if(∃M,b2a M/\x.1=mp B10 M)/\x.2.1.length<=1000000 then some ((e2w (mv B10 x.1) (tgF x.2.1)).map (rp B10),())else none
theorem S.e3s (x r) (h:S.b6l x=some r):∃k,P.d0u k x=some r:=by
 obtain⟨m,ts,u⟩:=x;unfold S.b6l at h;dsimp only at h;split at h
 case isFalse=>cases h
 rename_i hc;obtain⟨⟨M,hM,rfl⟩,ht⟩:=hc;rw[b8s (by decide)]at h;cases h;have hI:=hM.2.1;have hn:=hI.1;have hn0:0<M.length:=hM.1;refine⟨13,?_⟩;unfold P.d0u;dsimp only;rw[a2y];exact a0f (k:=13) (b:=P.b5h) (n:=M.length) (st:=fun i=>((i:Int),(M.length:Int),(tab i c8b).map (rp B10),ts,(tab i (tgQ (tgF ts))).map (rp B10),mp B10 M,())) (F:=fun _=>some ((e2w M (tgF ts)).map (rp B10),())) (fun i g hi hg=>by
  unfold P.b5h;dsimp only at hg ⊢;have e1:(i:Int)<(M.length:Int):=by omega
  have e3:(i+1)*56<=140737488355328:=by omega
  have e4:∀q:Q3,((rp B10 q).1,(rp B10 q).2.1,(rp B10 q).2.2)=rp B10 q:=fun _=>rfl
  have hv:tgQ (tgF ts) i=if tgF ts i=true then a6j else a0q:=rfl
  rw[<-a7y,<-a7y,hv]at hg;rw[if_pos (decide_eq_true e1),shi_none,Option.bind_some,shi_has ht,Option.bind_some,shi_one];dsimp only;simp only[e4,List.length_map,a0s,List.length_cons,List.length_nil,Nat.zero_add,e3,decide_true,if_true,Option.bind_some];rw[wr (by omega) (by omega)];cases hc:tgF ts i
  ·rw[hc,if_neg (by decide)]at hg;rw[if_neg (by decide)];exact hg
  ·rw[hc,if_pos rfl]at hg;rw[if_pos rfl];exact hg) (fun g=>by
  unfold P.b5h;dsimp only;have ei:S.b3s (mp B10 M,ts,())=some (zs (fl (inC M (tgF ts)) M.length),()):=by
   unfold S.b3s;dsimp only;rw[if_pos ⟨⟨M,hI,rfl⟩,ht⟩,b8s (by decide),a2y]
  have hz:∀i,i<M.length->cZ (zs (fl (inC M (tgF ts)) M.length)) i=inC M (tgF ts) i:=fun i hi=>cZ_fl hi
  have h1:∀i,i<M.length->zoL ((tab M.length c8b).map (rp B10)) i=c8b i:=fun i hi=>zoL_at c6q hi
  have h2:∀i,i<M.length->zoL ((tab M.length (tgQ (tgF ts))).map (rp B10)) i=tgQ (tgF ts) i:=fun i hi=>zoL_at (tgQ_zo _) hi
  have em:S.a6y (mp B10 M,zs (fl (inC M (tgF ts)) M.length),(tab M.length c8b).map (rp B10),(tab M.length (tgQ (tgF ts))).map (rp B10),())=some ((e2w M (tgF ts)).map (rp B10),()):=by
   unfold S.a6y;dsimp only
   rw[if_pos ⟨M,hM,rfl,by rw[c6p],by rw[a0p h1],by rw[a0p h2],fun i hi hc=>by
    rw[hz i hi]at hc;obtain⟨j,hj,q,w⟩:=inC_out i hi hc;exact⟨j,hj,by rw[hz j hj];exact q,w⟩⟩,b8s (by decide),d2p hn0 hz h1 h2,e0m hM]
  rw[if_neg (by simp),ei,Option.bind_some];dsimp only;rw[em,Option.bind_some]) (by omega)
abbrev s_VisitsBefore.A:=Int×Int×Int×List RB×List RB×List Int×List (List RB)×Int×RB×List RB×Int×Int×Unit
abbrev s_VisitsBefore.B:=Int×Int×List Int×Int×List (List RB)×List RB×Unit
abbrev s_VisitsBefore.C:=Option ((List ByteArray×Bool)×Unit)
abbrev P.a4f (g14:s_VisitsBefore.B->s_VisitsBefore.C) (x19:s_VisitsBefore.A) (g20:s_VisitsBefore.A->s_VisitsBefore.C):s_VisitsBefore.C:=
 (fun(a b c i m n:Int) (d e l:List RB) (f:List Int) (h:List (List RB)) (j:RB)=>if decide (a<b)then(S.a4y ()).bind fun y21=>if a==c then(S.a7f ()).bind fun y22=>if decide (((d.length+(List.length [(y22.1.1,y22.1.2.1,y22.1.2.2)]))*56)<=140737488355328)then(S.a4y ()).bind fun y23=>if decide (((e.length+(List.length [(y23.1.1,y23.1.2.1,y23.1.2.2)]))*56)<=140737488355328)then g20 (wrap .i64 (a+1),b,c,d++[(y22.1.1,y22.1.2.1,y22.1.2.2)],e++[(y23.1.1,y23.1.2.1,y23.1.2.2)],f,h,i,(j.1,j.2.1,j.2.2),l,m,n,())else none else none else if decide (((d.length+(List.length [(y21.1.1,y21.1.2.1,y21.1.2.2)]))*56)<=140737488355328)then(S.a4y ()).bind fun y24=>if decide (((e.length+(List.length [(y24.1.1,y24.1.2.1,y24.1.2.2)]))*56)<=140737488355328)then g20 (wrap .i64 (a+1),b,c,d++[(y21.1.1,y21.1.2.1,y21.1.2.2)],e++[(y24.1.1,y24.1.2.1,y24.1.2.2)],f,h,i,(j.1,j.2.1,j.2.2),l,m,n,())else none else none else(S.a6y (h,f,d,e,())).bind fun y25=>if decide (0<=i)then if decide (i<(y25.1.length:Int))then if decide (((l.length+(List.length [((y25.1.getD i.toNat (false,[],[])).1,(y25.1.getD i.toNat (false,[],[])).2.1,(y25.1.getD i.toNat (false,[],[])).2.2)]))*56)<=140737488355328)then g14 (wrap .i64 (m+1),n,f,i,h,l++[((y25.1.getD i.toNat (false,[],[])).1,(y25.1.getD i.toNat (false,[],[])).2.1,(y25.1.getD i.toNat (false,[],[])).2.2)],())else none else none else none) x19.1 x19.2.1 x19.2.2.1 x19.2.2.2.2.2.2.2.1 x19.2.2.2.2.2.2.2.2.2.2.1 x19.2.2.2.2.2.2.2.2.2.2.2.1 x19.2.2.2.1 x19.2.2.2.2.1 x19.2.2.2.2.2.2.2.2.2.1 x19.2.2.2.2.2.1 x19.2.2.2.2.2.2.1 x19.2.2.2.2.2.2.2.2.1
abbrev P.a6e (k:Nat) (x13:s_VisitsBefore.B) (g14:s_VisitsBefore.B->s_VisitsBefore.C):s_VisitsBefore.C:=
 (fun(a b d:Int) (c:List Int) (e:List (List RB)) (f:List RB)=>if decide (a<b)then(S.a4y ()).bind fun y15=>(S.a2q (c,a,())).bind fun y16=>if y16.1 then(S.a2q (c,d,())).bind fun y17=>if y17.1 then loopP (P.a4f g14) k (0,(e.length:Int),a,[],[],c,e,d,(y15.1.1,y15.1.2.1,y15.1.2.2),f,a,b,())else if decide (((f.length+(List.length [(y15.1.1,y15.1.2.1,y15.1.2.2)]))*56)<=140737488355328)then g14 (wrap .i64 (a+1),b,c,d,e,f++[(y15.1.1,y15.1.2.1,y15.1.2.2)],())else none else if decide (((f.length+(List.length [(y15.1.1,y15.1.2.1,y15.1.2.2)]))*56)<=140737488355328)then g14 (wrap .i64 (a+1),b,c,d,e,f++[(y15.1.1,y15.1.2.1,y15.1.2.2)],())else none else(S.a8z (f,())).bind fun y26=>some ((y26.1.1,y26.1.2),())) x13.1 x13.2.1 x13.2.2.2.1 x13.2.2.1 x13.2.2.2.2.1 x13.2.2.2.2.2.1
abbrev P.a6z (k:Nat) (x7:Int×Int×List Int×List RB×List Int×List (List RB)×Int×Unit) (g8:Int×Int×List Int×List RB×List Int×List (List RB)×Int×Unit->s_VisitsBefore.C):s_VisitsBefore.C:=
 (fun(a b h:Int) (c e:List Int) (d:List RB) (f:List (List RB))=>if decide (a<b)then(S.a2q (c,a,())).bind fun y9=>if !y9.1 then if decide (0<=a)then if decide (a<(d.length:Int))then(S.a7f ()).bind fun y10=>(S.a4e (((d.getD a.toNat (false,[],[])).1,(d.getD a.toNat (false,[],[])).2.1,(d.getD a.toNat (false,[],[])).2.2),(y10.1.1,y10.1.2.1,y10.1.2.2),())).bind fun y11=>if y11.1 then if decide (((e.length+(List.length [a]))*8)<=140737488355328)then g8 (wrap .i64 (a+1),b,c,d,e++[a],f,h,())else none else g8 (wrap .i64 (a+1),b,c,d,e,f,h,())else none else none else g8 (wrap .i64 (a+1),b,c,d,e,f,h,())else loopP (P.a6e k) k (0,(f.length:Int),e,h,f,[],())) x7.1 x7.2.1 x7.2.2.2.2.2.2.1 x7.2.2.1 x7.2.2.2.2.1 x7.2.2.2.1 x7.2.2.2.2.2.1
def P.b5x (k:Nat) (x:List (List ByteArray)×Int×List Int×Unit):s_VisitsBefore.C:=
 (S.b3x (x.1,())).bind fun y0=>if !y0.1.2 then some (([],false),())else(S.b6p (y0.1.1,x.2.1,())).bind fun y1=>if !y1.1 then some (([],false),())else(S.b2k (y0.1.1,x.2.2.1,())).bind fun y2=>if !y2.1 then some (([],false),())else(S.b6l (y0.1.1,x.2.2.1,())).bind fun y3=>if decide (0<=x.2.1)then if decide (x.2.1<(y3.1.length:Int))then(S.a7f ()).bind fun y4=>(S.a4e (((y3.1.getD x.2.1.toNat (false,[],[])).1,(y3.1.getD x.2.1.toNat (false,[],[])).2.1,(y3.1.getD x.2.1.toNat (false,[],[])).2.2),(y4.1.1,y4.1.2.1,y4.1.2.2),())).bind fun y5=>if !y5.1 then some (([],false),())else loopP (P.a6z k) k (0,(y0.1.1.length:Int),x.2.2.1,y3.1,[],y0.1.1,x.2.1,())else none else none
theorem svb_row {M:List (List Q3)} (h:b2a M) {c:Nat->Bool} (hw:b6r M c) {a s:Nat} (ha:a<M.length) (hs:s<M.length) (O:List (Bool×(List Int×List Int))) (hO:O.length<=12) (g) {K:Nat} (hK:12<K):
  loopP (P.a4f g) K ((0:Int),(M.length:Int),(a:Int),([]:List (Bool×(List Int×List Int))),([]:List (Bool×(List Int×List Int))),zs (fl c M.length),mp B10 M,(s:Int),rp B10 a0q,O,(a:Int),(M.length:Int),())=g (((a+1:Nat):Int),(M.length:Int),zs (fl c M.length),(s:Int),mp B10 M,O++[rp B10 ((meL M c (atQ a) c8b).getD s a0q)],()):=by
 have hn:=h.2.1.1;have hn0:0<M.length:=h.1;have o1:S.a7f ()=some (rp B10 a6j,()):=by rfl
 have o2:S.a4y ()=some (rp B10 a0q,()):=by rfl
 have e4:∀q:Q3,((rp B10 q).1,(rp B10 q).2.1,(rp B10 q).2.2)=rp B10 q:=fun _=>rfl
 exact a0f (k:=K) (b:=P.a4f g) (n:=M.length) (st:=fun k=>((k:Int),(M.length:Int),(a:Int),(tab k (atQ a)).map (rp B10),(tab k c8b).map (rp B10),zs (fl c M.length),mp B10 M,(s:Int),rp B10 a0q,O,(a:Int),(M.length:Int),())) (F:=fun _=>g (((a+1:Nat):Int),(M.length:Int),zs (fl c M.length),(s:Int),mp B10 M,O++[rp B10 ((meL M c (atQ a) c8b).getD s a0q)],())) (fun k g' hk hg=>by
  unfold P.a4f;dsimp only at hg ⊢;have e1:(k:Int)<(M.length:Int):=by omega
  have e3:(k+1)*56<=140737488355328:=by omega
  have hv:atQ a k=if k=a then a6j else a0q:=rfl
  have hv2:c8b k=a0q:=rfl;rw[<-a7y,<-a7y,hv,hv2]at hg;rw[if_pos (decide_eq_true e1),o2,Option.bind_some,o1,wr (by omega) (by omega)];dsimp only;simp only[e4,List.length_map,a0s,List.length_cons,List.length_nil,Nat.zero_add,e3,decide_true,if_true,Option.bind_some]
  by_cases hq:k=a
  ·rw[if_pos hq]at hg;rw[if_pos (by rw[beq_iff_eq];omega)];exact hg
  ·rw[if_neg hq]at hg;rw[if_neg (by rw[beq_iff_eq];omega)];exact hg) (fun g'=>by
  unfold P.a4f;dsimp only;have hz:∀i,i<M.length->cZ (zs (fl c M.length)) i=c i:=fun i hi=>cZ_fl hi
  have h1:∀i,i<M.length->zoL ((tab M.length (atQ a)).map (rp B10)) i=atQ a i:=fun i hi=>zoL_at (atQ_zo a) hi
  have h2:∀i,i<M.length->zoL ((tab M.length c8b).map (rp B10)) i=c8b i:=fun i hi=>zoL_at c6q hi
  have em:S.a6y (mp B10 M,zs (fl c M.length),(tab M.length (atQ a)).map (rp B10),(tab M.length c8b).map (rp B10),())=some ((meL M c (atQ a) c8b).map (rp B10),()):=by
   unfold S.a6y;dsimp only;rw[if_pos ⟨M,h,rfl,by rw[c6p],by rw[a0p h1],by rw[a0p h2],way_congr (fun i hi=>(hz i hi).symm) hw⟩,b8s (by decide),d2p hn0 hz h1 h2]
  have f1:(0:Int)<=(s:Int):=by omega
  have f2:(s:Int)<(M.length:Int):=by omega
  have f3:(O.length+1)*56<=140737488355328:=by omega
  rw[if_neg (by simp),em,Option.bind_some,wr (by omega) (by omega)];dsimp only;simp only[List.length_map,me_len,Int.toNat_natCast,me_get hs,e4,List.length_cons,List.length_nil,Nat.zero_add,f1,f2,f3,decide_true,if_true];rfl) (by omega)
open Classical in
def S.a5y (x:((List (List ByteArray))×(Int×((List Int)×Unit)))):(Option (((List ByteArray)×Bool)×Unit)):=if x.1.all okT=true/\x.2.2.1.length<=1000000 then some (vbT x.1 x.2.1 x.2.2.1,())else none
theorem S.c5n (x r) (h:S.a5y x=some r):∃k,P.b5x k x=some r:=by
 obtain⟨u,z,ts,u'⟩:=x;unfold S.a5y at h;dsimp only at h;split at h
 case isFalse=>cases h
 rename_i hcc;obtain⟨hu,ht⟩:=hcc;cases h;refine⟨13,?_⟩;have hp:S.b3x (u,())=some ((mp B10 (chQ u).1,(chQ u).2),()):=by
  unfold S.b3x;exact if_pos hu
 unfold P.b5x vbT tgC;dsimp only;rw[hp,Option.bind_some];dsimp only;cases hc:(chQ u).2
 ·rw[if_pos (by decide),Bool.false_and,if_neg (by decide)]
 obtain⟨hM,_⟩:=chQ_ok hc;generalize (chQ u).1=M at*;have hn:=hM.2.1.1;have hn0:0<M.length:=hM.1;have es:S.b6p (mp B10 M,z,())=some (decide (0<=z/\z<=(M.length:Int) - 1),()):=by
  unfold S.b6p P.c0x S.c6f P.d2d;dsimp only;rw[a2y,wr (by omega) (by omega)]
  by_cases h1:z>=0
  ·rw[if_pos (decide_eq_true h1),Option.bind_some];congr 2;rw[decide_eq_decide];exact⟨fun a=>⟨h1,a⟩,fun a=>a.2⟩
  ·rw[if_neg (by simpa using h1),Option.bind_some,decide_eq_false (fun a=>h1 a.1)]
 have et:S.b2k (mp B10 M,ts,())=some (decide ((ts.length:Int)>0)&&risB ts 0 ((M.length:Int) - 1),()):=by
  unfold S.b2k P.b5p;dsimp only;rw[a2y,wr (by omega) (by omega)]
  by_cases h0:(ts.length:Int)>0
  ·have er:S.b3y (ts,0,(M.length:Int) - 1,())=some (risB ts 0 ((M.length:Int) - 1),()):=by
    unfold S.b3y;dsimp only;rw[if_pos (by omega)]
   rw[if_pos (decide_eq_true (show(ts.length:Int)>=1 by omega)),er,Option.bind_some,decide_eq_true h0,Bool.true_and]
  ·rw[if_neg (by simpa using(show ¬(ts.length:Int)>=1 by omega)),decide_eq_false h0,Bool.false_and]
 have eh:S.b6l (mp B10 M,ts,())=some ((e2w M (tgF ts)).map (rp B10),()):=by
  unfold S.b6l;dsimp only;rw[if_pos ⟨⟨_,hM,rfl⟩,ht⟩,b8s (by decide)]
 rw[if_neg (by decide),es,Option.bind_some,Bool.true_and];dsimp only;cases hd:decide (0<=z/\z<=(M.length:Int) - 1)
 ·rw[if_pos (by decide),Bool.false_and,Bool.and_false,if_neg (by decide)]
 obtain⟨s,rfl⟩:=Int.eq_ofNat_of_zero_le (of_decide_eq_true hd).1;have hs:s<M.length:=by have:=(of_decide_eq_true hd).2;omega
 have hs0:(0:Int)<=(s:Int):=by omega
 have hs1:(s:Int)<(M.length:Int):=by omega
 rw[if_neg (by decide),et,Option.bind_some,Bool.true_and];dsimp only;cases hr:(decide ((ts.length:Int)>0)&&risB ts 0 ((M.length:Int) - 1))
 ·rw[if_pos (by decide),Bool.false_and,if_neg (by decide)]
 have e9:(e2w M (tgF ts)).length=M.length:=by rw[hitL_tab,a0s]
 have e4:∀q:Q3,((rp B10 q).1,(rp B10 q).2.1,(rp B10 q).2.2)=rp B10 q:=fun _=>rfl
 have e7:∀i,i<M.length->((e2w M (tgF ts)).map (rp B10)).getD i (false,(([]:List Int),([]:List Int)))=rp B10 (hQ M (tgF ts) i):=fun i hi=>a4s hi _
 have ee:∀i,i<M.length->S.a4e (rp B10 (hQ M (tgF ts) i),rp B10 a6j,())=some (decide (hQ M (tgF ts) i=a6j),()):=fun i hi=>by
  have hk:=hQ_low hM (tgF ts) hi;exact rs_equal hk.1 b3q hk.2 (c7q (by decide))
 have o1:S.a7f ()=some (rp B10 a6j,()):=by rfl
 have o2:S.a4y ()=some (rp B10 a0q,()):=by rfl
 rw[if_neg (by decide),eh,Option.bind_some,Bool.true_and,if_pos (decide_eq_true hs0),List.length_map,e9,if_pos (decide_eq_true hs1),Int.toNat_natCast,o1,Option.bind_some];dsimp only;rw[e7 s hs];simp only[e4];rw[ee s hs,Option.bind_some];dsimp only;cases hq:decide (hQ M (tgF ts) s=a6j)
 ·rw[if_pos (by decide),if_neg (by decide)]
 have h1:hQ M (tgF ts) s=a6j:=of_decide_eq_true hq;obtain⟨g1,g2⟩:=vsp_all hM hs h1;have eg:S.a8z ((tab M.length (d4t M (tgF ts) s)).map (rp B10),())=some (c9u (tab M.length (d4t M (tgF ts) s)),()):=by
  unfold S.a8z;dsimp only;rw[if_pos ⟨all_rok (by decide) (by decide) g1,by rw[List.length_map];omega⟩,b8z a0d]
 have hhas:∀j:Nat,S.a2q (ts,(j:Int),())=some (tgF ts j,()):=fun j=>by
  unfold S.a2q;dsimp only;rw[if_pos ht];rfl
 rw[if_neg (by decide),if_pos rfl,a2y];have key:=a0f (k:=13) (b:=P.a6z 13) (n:=M.length) (st:=fun i=>((i:Int),(M.length:Int),ts,(e2w M (tgF ts)).map (rp B10),zs (fl (cV M (tgF ts)) i),mp B10 M,(s:Int),())) (F:=fun _=>some (c9u (tab M.length (d4t M (tgF ts) s)),())) (fun i g hi hg=>by
  unfold P.a6z;dsimp only at hg ⊢;have hli:=b8c (cV M (tgF ts)) i;have e1:(i:Int)<(M.length:Int):=by omega
  have e2:(0:Int)<=(i:Int):=by omega
  have e5:((fl (cV M (tgF ts)) i).length+1)*8<=140737488355328:=by omega
  have hv:cV M (tgF ts) i=(!tgF ts i&&decide (hQ M (tgF ts) i=a6j)):=rfl;rw[b8u,hv]at hg;rw[if_pos (decide_eq_true e1),hhas,Option.bind_some,o1,wr (by omega) (by omega)];dsimp only;simp only[e4,e7 i hi,e9,a5x,Int.toNat_natCast,List.length_map,List.length_cons,List.length_nil,Nat.zero_add,e1,e2,e5,decide_true,if_true,Option.bind_some,ee i hi];cases hs2:tgF ts i
  ·rw[hs2]at hg;rw[if_pos (by decide)];cases hq2:decide (hQ M (tgF ts) i=a6j)
   ·rw[hq2,if_neg (by decide),List.append_nil]at hg;rw[if_neg (by decide)];exact hg
   ·rw[hq2,if_pos (by decide),c0o]at hg;rw[if_pos rfl];exact hg
  ·rw[hs2,if_neg (by simp),List.append_nil]at hg;rw[if_neg (by decide)];exact hg) (fun g=>by
  unfold P.a6z;dsimp only;have w2:=cV_way (M:=M) (tg:=tgF ts);rw[if_neg (by simp),a2y];exact a0f (k:=13) (b:=P.a6e 13) (n:=M.length) (st:=fun a=>((a:Int),(M.length:Int),zs (fl (cV M (tgF ts)) M.length),(s:Int),mp B10 M,(tab a (d4t M (tgF ts) s)).map (rp B10),())) (F:=fun _=>some (c9u (tab M.length (d4t M (tgF ts) s)),())) (fun a g' ha hg'=>by
   unfold P.a6e;dsimp only at hg' ⊢;have e1:(a:Int)<(M.length:Int):=by omega
   have e3:(a+1)*56<=140737488355328:=by omega
   have hv:d4t M (tgF ts) s a=if cV M (tgF ts) a=true then(if cV M (tgF ts) s=true then(meL M (cV M (tgF ts)) (atQ a) c8b).getD s a0q else a0q)else a0q:=rfl
   rw[<-a7y,hv]at hg';rw[if_pos (decide_eq_true e1),o2,Option.bind_some,sme_has hn ha,Option.bind_some,sme_has hn hs];dsimp only;simp only[e4,List.length_map,a0s,List.length_cons,List.length_nil,Nat.zero_add,e3,decide_true,if_true,Option.bind_some,a2y];have hw1:wrap .i64 ((a:Int)+1)=((a+1:Nat):Int):=by rw[wr (by omega) (by omega)];omega
   rw[hw1];cases hca:cV M (tgF ts) a
   ·rw[hca,if_neg (by decide)]at hg';rw[if_neg (by decide)];exact hg'
   ·rw[hca,if_pos rfl]at hg';rw[if_pos rfl];cases hcs:cV M (tgF ts) s
    ·rw[hcs,if_neg (by decide)]at hg';rw[if_neg (by decide)];exact hg'
    ·rw[hcs,if_pos rfl]at hg';rw[if_pos rfl,<-hg'];exact svb_row hM w2 ha hs _ (by rw[List.length_map,a0s];omega) g' (by decide)) (fun g'=>by
   unfold P.a6e;dsimp only;rw[if_neg (by simp),eg,Option.bind_some]) (by omega)) (by omega)
 exact key
def P.b4l (k:Nat) (x:Int×Int×Unit):Option ((Int×Int)×Unit):=
 some ((wrap .u64 ((wrap .u64 ((wrap .u64 ((Int.fdiv x.1 4294967296)*(Int.fdiv x.2.1 4294967296)))+(Int.fdiv (wrap .u64 ((wrap .u64 ((Int.fdiv x.1 4294967296)*(wrap .u64 ((BitVec.toNat ((BitVec.ofInt 64 x.2.1)&&& (BitVec.ofInt 64 4294967295)):Nat):Int))))+(Int.fdiv (wrap .u64 ((wrap .u64 ((BitVec.toNat ((BitVec.ofInt 64 x.1)&&& (BitVec.ofInt 64 4294967295)):Nat):Int))*(wrap .u64 ((BitVec.toNat ((BitVec.ofInt 64 x.2.1)&&& (BitVec.ofInt 64 4294967295)):Nat):Int)))) 4294967296))) 4294967296)))+(Int.fdiv (wrap .u64 ((wrap .u64 ((BitVec.toNat ((BitVec.ofInt 64 (wrap .u64 ((wrap .u64 ((Int.fdiv x.1 4294967296)*(wrap .u64 ((BitVec.toNat ((BitVec.ofInt 64 x.2.1)&&& (BitVec.ofInt 64 4294967295)):Nat):Int))))+(Int.fdiv (wrap .u64 ((wrap .u64 ((BitVec.toNat ((BitVec.ofInt 64 x.1)&&& (BitVec.ofInt 64 4294967295)):Nat):Int))*(wrap .u64 ((BitVec.toNat ((BitVec.ofInt 64 x.2.1)&&& (BitVec.ofInt 64 4294967295)):Nat):Int)))) 4294967296))))&&& (BitVec.ofInt 64 4294967295)):Nat):Int))+(wrap .u64 ((wrap .u64 ((BitVec.toNat ((BitVec.ofInt 64 x.1)&&& (BitVec.ofInt 64 4294967295)):Nat):Int))*(Int.fdiv x.2.1 4294967296))))) 4294967296)),wrap .u64 (x.1*x.2.1)),())
def S.b4m (x:(Int×(Int×Unit))):(Option ((Int×Int)×Unit)):=P.b4l 0 x
theorem S.c3o (x r) (h:S.b4m x=some r):∃k,P.b4l k x=some r:=⟨0,h⟩
def P.b7i (k:Nat) (x:Int×Int×Unit):Option ((Int×Int)×Unit):=
 (S.b4m (x.1,x.2.1,())).bind fun y0=>some ((y0.1.1,y0.1.2),())
def S.a7a (x:(Int×(Int×Unit))):(Option ((Int×Int)×Unit)):=P.b7i 0 x
theorem S.c8q (x r) (h:S.a7a x=some r):∃k,P.b7i k x=some r:=⟨0,h⟩
abbrev P.a2c (x2:(Int×((List RB)×Unit))) (g3:(Int×((List RB)×Unit))->Option ((List RB)×Unit)):Option ((List RB)×Unit):=
 (if((decide (x2.1<((List.length x2.2.1):Int)))=true)then(if((decide ((0:Int)<=((List.length x2.2.1):Int)))=true)then(if((decide ((((List.length x2.2.1):Int)+(0:Int))<=((List.length x2.2.1):Int)))=true)then(if((decide ((0:Int)<=x2.1))=true)then(if((decide (x2.1<=((List.length x2.2.1):Int)))=true)then(if((decide ((0:Int)<=x2.1))=true)then(if((decide ((x2.1+(0:Int))<=((List.length x2.2.1):Int)))=true)then(if((decide ((0:Int)<=x2.1))=true)then(g3 ((IntKind.wrap .i64 (x2.1+(((Min.min (List.length (seen x2.2.1 (0:Nat) ((Int.toNat x2.1) - (0:Nat)))) ((Int.toNat ((List.length x2.2.1):Int)) - (Int.toNat x2.1))):Nat):Int))),((splice x2.2.1 (List.take ((Int.toNat ((List.length x2.2.1):Int)) - (Int.toNat x2.1)) (seen x2.2.1 (0:Nat) ((Int.toNat x2.1) - (0:Nat)))) ((0:Nat)+(Int.toNat x2.1))),())))
 else none)
 else none)
 else none)
 else none)
 else none)
 else none)
 else none)
 else(some (x2.2.1,())))
def P.a3z (k:Nat) (x:((List RB)×(Int×Unit))):(Option ((List RB)×Unit)):=
 (if((decide (x.2.1<(0:Int)))=true)then none
 else(Option.bind (S.a7a ((IntKind.wrap .u64 ((List.length x.1):Int)),((IntKind.wrap .u64 x.2.1),()))) (fun(y0:((Int×Int)×Unit))=>(if((decide (y0.1.1>(0:Int)))=true)then none
 else(if((decide (y0.1.2>(9223372036854775807:Int)))=true)then none
 else(if((decide ((0:Int)<=(IntKind.wrap .i64 y0.1.2)))=true)then(if((decide ((IntKind.wrap .i64 y0.1.2)<=(IntKind.wrap .i64 y0.1.2)))=true)then(if((decide (((IntKind.wrap .i64 y0.1.2)*(56:Int))<=(281474976710656:Int)))=true)then(loopP (X:=(Int×((List RB)×Unit))) (R:=((List RB)×Unit)) (P.a2c) k ((((Min.min (List.length x.1) (List.length (List.replicate (Int.toNat (IntKind.wrap .i64 y0.1.2)) (false,(([]:List Int),([]:List Int)))))):Nat):Int),((splice (List.replicate (Int.toNat (IntKind.wrap .i64 y0.1.2)) (false,(([]:List Int),([]:List Int)))) (List.take (List.length (List.replicate (Int.toNat (IntKind.wrap .i64 y0.1.2)) (false,(([]:List Int),([]:List Int))))) x.1) (0:Nat)),())))
 else none)
 else none)
 else none))))))
def PP.a6l (k:Nat) (x:((List RB)×(Int×Unit))):(Option ((List RB)×Unit)):=
 (Decidable.rec (motive:=fun _=>(Option ((List RB)×Unit))) (fun _=>(Option.bind (S.a7a ((IntKind.wrap .u64 ((List.length x.1):Int)),((IntKind.wrap .u64 x.2.1),()))) (fun(y0:((Int×Int)×Unit))=>(Decidable.rec (motive:=fun _=>(Option ((List RB)×Unit))) (fun _=>(Decidable.rec (motive:=fun _=>(Option ((List RB)×Unit))) (fun _=>(Decidable.rec (motive:=fun _=>(Option ((List RB)×Unit))) (fun _=>none) (fun _=>(Decidable.rec (motive:=fun _=>(Option ((List RB)×Unit))) (fun _=>none) (fun _=>(Decidable.rec (motive:=fun _=>(Option ((List RB)×Unit))) (fun _=>none) (fun _=>(loopP (X:=(Int×((List RB)×Unit))) (R:=((List RB)×Unit)) (P.a2c) k ((((Min.min (List.length x.1) (List.length (List.replicate (Int.toNat (IntKind.wrap .i64 y0.1.2)) (false,(([]:List Int),([]:List Int)))))):Nat):Int),((splice (List.replicate (Int.toNat (IntKind.wrap .i64 y0.1.2)) (false,(([]:List Int),([]:List Int)))) (List.take (List.length (List.replicate (Int.toNat (IntKind.wrap .i64 y0.1.2)) (false,(([]:List Int),([]:List Int))))) x.1) (0:Nat)),())))) (instDecidableEqBool (decide (((IntKind.wrap .i64 y0.1.2)*(56:Int))<=(281474976710656:Int))) true))) (instDecidableEqBool (decide ((IntKind.wrap .i64 y0.1.2)<=(IntKind.wrap .i64 y0.1.2))) true))) (instDecidableEqBool (decide ((0:Int)<=(IntKind.wrap .i64 y0.1.2))) true))) (fun _=>none) (instDecidableEqBool (decide (y0.1.2>(9223372036854775807:Int))) true))) (fun _=>none) (instDecidableEqBool (decide (y0.1.1>(0:Int))) true))))) (fun _=>none) (instDecidableEqBool (decide (x.2.1<(0:Int))) true))
theorem PP.b2g (k:Nat) (x:((List RB)×(Int×Unit))):PP.a6l k x=P.a3z k x:=rfl
theorem e3t:∀n:Fin 21,S.a7a (1,((n.val:Int),()))=some ((0,(n.val:Int)),()):=by decide
def S.a0j (x:((List RB)×(Int×Unit))):(Option ((List RB)×Unit)):=if x.1.length=1/\0<=x.2.1/\x.2.1<=20 then some (List.replicate x.2.1.toNat (x.1.getD 0 (false,([],[]))),())else none
theorem S.b2p (x r) (h:S.a0j x=some r):∃k,P.a3z k x=some r:=by
 obtain⟨xs,m,u⟩:=x;unfold S.a0j at h;dsimp only at h;split at h
 case isFalse=>cases h
 rename_i hc;cases h;obtain⟨hx,h1,h2⟩:=hc;obtain⟨a,rfl⟩:∃a,xs=[a]:=by
  match xs,hx with
  | [a],_=>exact⟨a,rfl⟩
 obtain⟨M,rfl⟩:∃M:Nat,m=(M:Int):=⟨m.toNat,by omega⟩
 rw[Int.toNat_natCast];refine⟨M+2,?_⟩;unfold P.a3z;dsimp only;have hmul:=e3t ⟨M,by omega⟩;dsimp only at hmul;have e0:IntKind.wrap .u64 (M:Int)=(M:Int):=IntWalk.u64_in _ (by omega);rw[if_neg (by simp),e0];show Option.bind (S.a7a (1,((M:Int),()))) _=_;rw[hmul,Option.bind_some];dsimp only;rw[if_neg (show ¬((decide ((0:Int)>0))=true) by simp),if_neg (by simpa using(show ¬(M:Int)>9223372036854775807 by omega)),wr (by omega) (by omega),if_pos (decide_eq_true (show(0:Int)<=(M:Int) by omega)),if_pos (by simp),if_pos (decide_eq_true (show(M:Int)*56<=281474976710656 by omega)),Int.toNat_natCast];simp only[List.length_replicate,List.length_cons,List.length_nil,Nat.zero_add];have key:∀(d j k:Nat),j+d=M->1<=j->d<k->loopP P.a2c k ((j:Int),List.replicate j a++List.replicate d (false,(([]:List Int),([]:List Int))),())=some (List.replicate M a,()):=by
  intro d
  induction d using Nat.strongRecOn with
  |ind d ih=>
   intro j k hj h1 hk;cases k with
   |zero=>omega
   |succ k=>
    rw[a0l];unfold P.a2c;have hlen:(List.replicate j a++List.replicate d (false,(([]:List Int),([]:List Int)))).length=M:=by simp;omega
    dsimp only;rw[hlen]
    by_cases hd:d=0
    ·subst hd;rw[if_neg (by simpa using(show ¬(j:Int)<(M:Int) by omega))];rw[show j=M by omega];simp
    ·have c1:(j:Int)<(M:Int):=by omega
     have c2:(0:Int)<=(M:Int):=by omega
     have c3:(M:Int)+0<=(M:Int):=by omega
     have c4:(0:Int)<=(j:Int):=by omega
     have c5:(j:Int)<=(M:Int):=by omega
     have c6:(j:Int)+0<=(M:Int):=by omega
     simp only[c1,c2,c3,c4,c5,c6,decide_true,if_true];have hs:seen (List.replicate j a++List.replicate d (false,(([]:List Int),([]:List Int)))) 0 ((j:Int).toNat - 0)=List.replicate j a:=by
      unfold seen;rw[Int.toNat_natCast,Nat.sub_zero,List.drop_zero,List.take_left' (by simp)]
     rw[hs,List.length_replicate,Int.toNat_natCast,Int.toNat_natCast];have hsp:splice (List.replicate j a++List.replicate d (false,(([]:List Int),([]:List Int)))) (List.take (M - j) (List.replicate j a)) (0+j)=List.replicate (j+min j d) a++List.replicate (d - min j d) (false,(([]:List Int),([]:List Int))):=by
      unfold splice;rw[Nat.zero_add,List.take_left' (by simp),List.take_replicate,List.length_replicate,show M - j=d by omega,List.drop_append];simp only[List.length_replicate];rw[List.drop_of_length_le (by simp),List.nil_append,List.drop_replicate,<-List.replicate_append_replicate,show j+min d j - j=min d j by omega,Nat.min_comm d j]
     rw[hsp,show M - j=d by omega,wr (by omega) (by omega)];have:=ih (d - min j d) (by omega) (j+min j d) k (by omega) (by omega) (by omega);rw[<-this];congr 2
 match M,h2 with
 |0,_=>
  rfl
 |M+1,h2=>
  have:=key M 1 (M+1+2) (by omega) (by omega) (by omega);have a1:min 1 (M+1)=1:=by omega
  have a2:splice (List.replicate (M+1) (false,(([]:List Int),([]:List Int)))) (List.take (M+1) [a]) 0=List.replicate 1 a++List.replicate M (false,(([]:List Int),([]:List Int))):=by
   unfold splice;simp [List.replicate_succ]
  rw[a1,a2];exact this
def P.c2a (k:Nat) (x:Int×Unit):Option (Int×Unit):=
 if decide (x.1<0)then some (wrap .u64 (0 - (wrap .u64 x.1)),())else some (wrap .u64 x.1,())
def S.b4n (x:(Int×Unit)):(Option (Int×Unit)):=if -9223372036854775808<=x.1/\x.1<=9223372036854775807 then some (((x.1.natAbs:Nat):Int),())else none
theorem S.d4z (x r) (h:S.b4n x=some r):∃k,P.c2a k x=some r:=by
 obtain⟨n,u⟩:=x;unfold S.b4n at h;dsimp only at h;split at h
 case isFalse=>cases h
 rename_i hc;cases h;refine⟨0,?_⟩;unfold P.c2a;dsimp only;have hw:∀y:Int,IntKind.wrap .u64 y=y%18446744073709551616:=fun _=>rfl
 rw[hw,hw]
 by_cases h0:n<0
 ·rw[if_pos (decide_eq_true h0)];congr 2;omega
 ·rw[if_neg (by simpa using h0)];congr 2;omega
abbrev P.b3c (x1:List Int×Unit) (g2:List Int×Unit->Option (List Int×Unit)):Option (List Int×Unit):=
 if decide ((x1.1.length:Int)>0)then if decide (0<=(wrap .i64 ((x1.1.length:Int) - 1)))then if decide ((wrap .i64 ((x1.1.length:Int) - 1))<(x1.1.length:Int))then if(x1.1.getD (Int.toNat (wrap .i64 ((x1.1.length:Int) - 1))) 0)==0 then if decide (0<=(wrap .i64 ((x1.1.length:Int) - 1)))then if decide ((wrap .i64 ((x1.1.length:Int) - 1))<=(x1.1.length:Int))then if decide (0<=(wrap .i64 ((x1.1.length:Int) - 1)))then g2 (seen x1.1 0 ((Int.toNat (wrap .i64 ((x1.1.length:Int) - 1))) - 0),())else none else none else none else some (x1.1,())else none else none else some (x1.1,())
def P.d7i (k:Nat) (x:List Int×Unit):Option (List Int×Unit):=
 loopP P.b3c k (x.1,())
theorem trim_loop (n:Nat):∀(xs:List Int) (k:Nat),xs.length=n->n<k->n<=1000000000000->dig B32 xs=true->loopP (X:=((List Int)×Unit)) (R:=((List Int)×Unit)) P.b3c k (xs,())=some (nd B32 (a0c B32 xs),()):=by
 induction n with
 |zero=>
  intro xs k hx hk _ _;have:xs=[]:=List.eq_nil_of_length_eq_zero hx;subst this;obtain⟨k,rfl⟩:∃j,k=j+1:=⟨k - 1,by omega⟩
  rw[a0l];unfold P.b3c;rw[if_neg (by simp)];rw[show a0c B32 []=0 from rfl,a1v a0e]
 |succ n ih=>
  intro xs k hx hk hn hd;obtain⟨k,rfl⟩:∃j,k=j+1:=⟨k - 1,by omega⟩
  rw[a0l];unfold P.b3c;dsimp only;have e0:IntKind.wrap .i64 ((xs.length:Int) - 1)=(n:Int):=by rw[wr (by omega) (by omega)];omega
  have e1:(xs.length:Int)>0:=by omega
  have e2:(0:Int)<=(n:Int):=by omega
  have e3:(n:Int)<(xs.length:Int):=by omega
  have e4:(n:Int)<=(xs.length:Int):=by omega
  rw[e0];simp only[e1,e2,e3,e4,decide_true,if_true];rw[a0o xs n _ (by omega)];have hs:=c4p xs n hx;have hdt:dig B32 (xs.take n++[xs[n]])=true:=by rw[<-hs];exact hd
  by_cases hz:xs[n]=0
  ·rw[if_pos (by simp [hz])];have e5:seen xs 0 ((n:Int).toNat - 0)=xs.take n:=by simp [seen]
   rw[e5];have hdt':=hdt;rw[a1o,Bool.and_eq_true]at hdt';rw[ih (xs.take n) k (by simp;omega) (by omega) (by omega) hdt'.1];have:a0c B32 xs=a0c B32 (xs.take n):=by
    conv=>lhs;rw[hs,hz]
    exact b1w _
   rw[this]
  ·rw[if_neg (by simp [hz])];have:=d3x a0e (xs.take n) xs[n] hdt hz;rw[<-hs]at this;rw[this]
def S.a3p (x:((List Int)×Unit)):(Option ((List Int)×Unit)):=if dig B32 x.1=true/\x.1.length<=1000000000000 then some (nd B32 (a0c B32 x.1),())else none
theorem S.d8r (x r) (h:S.a3p x=some r):∃k,P.d7i k x=some r:=by
 obtain⟨xs,u⟩:=x;unfold S.a3p at h;dsimp only at h;split at h
 case isFalse=>cases h
 rename_i hc;cases h;exact⟨xs.length+1,trim_loop xs.length xs _ rfl (by omega) hc.2 hc.1⟩
theorem trim_i (xs:List Int) (h:dig B32 xs=true) (hl:xs.length<=1000000000000):S.a3p (xs,())=some (nd B32 (a0c B32 xs),()):=by
 unfold S.a3p;dsimp only;rw[if_pos ⟨h,hl⟩]
def P.i_natOf (k:Nat) (x:Int×Unit):Option (List Int×Unit):=
 (S.a3p ((wrap .u32 x.1)::[wrap .u32 (Int.fdiv x.1 4294967296)],())).bind fun y0=>some (y0.1,())
def S.a2v (x:(Int×Unit)):(Option ((List Int)×Unit)):=if 0<=x.1/\x.1<18446744073709551616 then some (nd B32 x.1.toNat,())else none
theorem S.i_natOf_ok (x r) (h:S.a2v x=some r):∃k,P.i_natOf k x=some r:=by
 obtain⟨n,u⟩:=x;unfold S.a2v at h;dsimp only at h;split at h
 case isFalse=>cases h
 rename_i hc;cases h;refine⟨0,?_⟩;unfold P.i_natOf;dsimp only;have hf:Int.fdiv n 4294967296=n/4294967296:=Int.fdiv_eq_ediv_of_nonneg _ (by omega);rw[hf,c0j n hc.1,c0j _ (by omega)];have hd:dig B32 [n%4294967296,n/4294967296%4294967296]=true:=by
  rw[a2h,a2h];refine⟨⟨by omega,?_⟩,⟨by omega,?_⟩,rfl⟩
  ·show _<(4294967296:Int);omega
  ·show _<(4294967296:Int);omega
 rw[trim_i _ hd (by simp),Option.bind_some];have:a0c B32 [n%4294967296,n/4294967296%4294967296]=n.toNat:=by
  simp only[a0c];show(n%4294967296).toNat+4294967296*((n/4294967296%4294967296).toNat+4294967296*0)=n.toNat;omega
 rw[this]
def P.i_whole (k:Nat) (x:Int×Unit):Option (RB×Unit):=
 (S.b4n (x.1,())).bind fun y0=>(S.a2v (y0.1,())).bind fun y1=>(S.a2v (1,())).bind fun y2=>some ((decide (x.1<0),y1.1,y2.1),())
def S.a2l (x:(Int×Unit)):(Option (RB×Unit)):=if -9223372036854775808<=x.1/\x.1<=9223372036854775807 then some (rp B32 (wholeQ x.1),())else none
theorem S.i_whole_ok (x r) (h:S.a2l x=some r):∃k,P.i_whole k x=some r:=by
 obtain⟨n,u⟩:=x;unfold S.a2l at h;dsimp only at h;split at h
 case isFalse=>cases h
 rename_i hc;cases h;refine⟨0,?_⟩;unfold P.i_whole S.b4n S.a2v;dsimp only;rw[if_pos hc,Option.bind_some];dsimp only;rw[if_pos ⟨by omega,by omega⟩,Option.bind_some,Int.toNat_natCast,if_pos ⟨by decide,by decide⟩,Option.bind_some];rfl
abbrev P.b5i (x1:Int×List Int×List Int×Unit) (g2:Int×List Int×List Int×Unit->Option (Int×Unit)):Option (Int×Unit):=
 (fun(a:Int) (b c:List Int)=>if decide (a>=0)then if decide (0<=a)then if decide (a<(b.length:Int))then if decide (0<=a)then if decide (a<(c.length:Int))then if(b.getD a.toNat 0) != (c.getD a.toNat 0)then if decide (0<=a)then if decide (a<(b.length:Int))then if decide (0<=a)then if decide (a<(c.length:Int))then if decide ((b.getD a.toNat 0)<(c.getD a.toNat 0))then some ((-1:Int),())else some (1,())else none else none else none else none else g2 (wrap .i64 (a - 1),b,c,())else none else none else none else none else some (0,())) x1.1 x1.2.1 x1.2.2.1
def P.d0v (k:Nat) (x:List Int×List Int×Unit):Option (Int×Unit):=
 if(x.1.length:Int) != (x.2.1.length:Int)then if decide ((x.1.length:Int)<(x.2.1.length:Int))then some ((-1:Int),())else some (1,())else loopP P.b5i k (wrap .i64 ((x.1.length:Int) - 1),x.1,x.2.1,())
def S.a1m (x:((List Int)×((List Int)×Unit))):(Option (Int×Unit)):=if a2o B32 x.1=true/\a2o B32 x.2.1=true/\x.1.length<=1000000000000 then some (b1i (a0c B32 x.1) (a0c B32 x.2.1),())else none
theorem S.e3u (x r) (h:S.a1m x=some r):∃k,P.d0v k x=some r:=by
 obtain⟨xs,ys,u⟩:=x;unfold S.a1m at h;dsimp only at h;split at h
 case isFalse=>cases h
 rename_i hc;obtain⟨cx,cy,hl⟩:=hc;cases h;refine⟨xs.length+1,?_⟩;unfold P.d0v;dsimp only
 by_cases hn:xs.length=ys.length
 ·rw[if_neg (by simp [hn]),wr (by omega) (by omega)];have key:=a0f (k:=xs.length+1) (b:=P.b5i) (n:=xs.length) (st:=fun j=>((xs.length:Int) - 1 - (j:Int),xs,ys,())) (F:=fun j=>some (b1i (a0c B32 (xs.take (xs.length - j))) (a0c B32 (ys.take (xs.length - j))),())) (fun j g hj hg=>by
   unfold P.b5i;dsimp only at hg ⊢;have e1:(xs.length:Int) - 1 - (j:Int)>=0:=by omega
   have e3:(0:Int)<=(xs.length:Int) - 1 - (j:Int):=by omega
   have e4:(xs.length:Int) - 1 - (j:Int)<(xs.length:Int):=by omega
   have e4':(xs.length:Int) - 1 - (j:Int)<(ys.length:Int):=by omega
   simp only[e1,e4,e4',decide_true,if_true];have hi:xs.length - (j+1)<xs.length:=by omega
   have hi':xs.length - (j+1)<ys.length:=by omega
   have e5:(xs.length:Int) - 1 - (j:Int)=((xs.length - (j+1):Nat):Int):=by omega
   have e6:xs.length - j=(xs.length - (j+1))+1:=by omega
   rw[e5,a0o xs _ _ hi,a0o ys _ _ hi',e6];generalize xs.length - (j+1)=i at*
   by_cases hq:xs[i]=ys[i]
   ·rw[if_neg (by simp [hq]),wr (by omega) (by omega)];have e7:((i:Nat):Int) - 1=(xs.length:Int) - 1 - ((j+1:Nat):Int):=by omega
    rw[e7,hg,<-List.take_append_getElem hi,<-List.take_append_getElem hi',a1a,a1a,hq];have hlx:(xs.take i).length=i:=by simp;omega
    have hly:(ys.take i).length=i:=by simp;omega
    rw[hlx,hly];unfold b1i;simp only[Nat.add_lt_add_iff_right]
   ·rw[if_pos (by simp [hq])]
    by_cases hlt:xs[i]<ys[i]
    ·have:=d0b xs ys i hi hi' (a1s cx) (a1s cy) hlt;rw[if_pos (decide_eq_true hlt),b1i,if_pos this]
    ·have:=d0b ys xs i hi' hi (a1s cy) (a1s cx) (by omega);rw[if_neg (by simpa using hlt),b1i,if_neg (by omega),if_pos this]) (fun g=>by
   unfold P.b5i;dsimp only;rw[if_neg (by simp;omega),Nat.sub_self,List.take_zero,List.take_zero];rfl) (by omega)
  rw[show(xs.length:Int) - 1 - ((0:Nat):Int)=(xs.length:Int) - 1 by omega,Nat.sub_zero,List.take_length,List.take_of_length_le (by omega)]at key;exact key
 ·rw[if_pos (by simp;omega)]
  by_cases hlt:xs.length<ys.length
  ·rw[if_pos (decide_eq_true (by omega)),b1i,if_pos (b1j a0e cx cy hlt)]
  ·have:=b1j a0e cy cx (by omega);rw[if_neg (by simp;omega),b1i,if_neg (by omega),if_pos this]
abbrev i_nat_mul.A:=Int×Int×List Int×Int×Int×List Int×Int×List Int×Int×Int×List Int×Unit
abbrev i_nat_mul.B:=Int×Int×List Int×List Int×List Int×Unit
abbrev i_nat_mul.C:=Option (List Int×Unit)
abbrev P.b2h (g2:i_nat_mul.B->i_nat_mul.C) (x4:i_nat_mul.A) (g5:i_nat_mul.A->i_nat_mul.C):i_nat_mul.C:=
 (fun(a b d e h j l:Int) (c f i m:List Int)=>if decide (a<b)then if decide (0<=a)then if decide (a<(c.length:Int))then if decide (0<=(wrap .i64 (h+a)))then if decide ((wrap .i64 (h+a))<(f.length:Int))then if decide (0<=(wrap .i64 (h+a)))then if decide ((wrap .i64 (h+a))<(f.length:Int))then g5 (wrap .i64 (a+1),b,c,Int.fdiv (wrap .u64 (d+(wrap .u64 ((wrap .u64 ((wrap .u64 e)*(wrap .u64 (c.getD a.toNat 0))))+(wrap .u64 (f.getD (0+(Int.toNat (wrap .i64 (h+a)))) 0)))))) 4294967296,e,f.set (0+(Int.toNat (wrap .i64 (h+a)))) (wrap .u32 (wrap .u64 (d+(wrap .u64 ((wrap .u64 ((wrap .u64 e)*(wrap .u64 (c.getD a.toNat 0))))+(wrap .u64 (f.getD (0+(Int.toNat (wrap .i64 (h+a)))) 0))))))),h,i,j,l,m,())else none else none else none else none else none else none else if decide (0<=(wrap .i64 (h+(i.length:Int))))then if decide ((wrap .i64 (h+(i.length:Int)))<(f.length:Int))then g2 (wrap .i64 (j+1),l,m,i,f.set (0+(Int.toNat (wrap .i64 (h+(i.length:Int))))) (wrap .u32 d),())else none else none) x4.1 x4.2.1 x4.2.2.2.1 x4.2.2.2.2.1 x4.2.2.2.2.2.2.1 x4.2.2.2.2.2.2.2.2.1 x4.2.2.2.2.2.2.2.2.2.1 x4.2.2.1 x4.2.2.2.2.2.1 x4.2.2.2.2.2.2.2.1 x4.2.2.2.2.2.2.2.2.2.2.1
abbrev P.b5j (k:Nat) (x1:i_nat_mul.B) (g2:i_nat_mul.B->i_nat_mul.C):i_nat_mul.C:=
 if decide (x1.1<x1.2.1)then if decide (0<=x1.1)then if decide (x1.1<(x1.2.2.1.length:Int))then loopP (P.b2h g2) k (0,(x1.2.2.2.1.length:Int),x1.2.2.2.1,0,x1.2.2.1.getD x1.1.toNat 0,x1.2.2.2.2.1,x1.1,x1.2.2.2.1,x1.1,x1.2.1,x1.2.2.1,())else none else none else(S.a3p (x1.2.2.2.2.1,())).bind fun y6=>some (y6.1,())
def P.d0w (k:Nat) (x:List Int×List Int×Unit):i_nat_mul.C:=
 if decide (0<=(wrap .i64 ((x.1.length:Int)+(x.2.1.length:Int))))then if decide ((wrap .i64 ((x.1.length:Int)+(x.2.1.length:Int)))<=(wrap .i64 ((x.1.length:Int)+(x.2.1.length:Int))))then if decide (((wrap .i64 ((x.1.length:Int)+(x.2.1.length:Int)))*4)<=281474976710656)then loopP (P.b5j k) k (0,(x.1.length:Int),x.1,x.2.1,List.replicate (Int.toNat (wrap .i64 ((x.1.length:Int)+(x.2.1.length:Int)))) 0,())else none else none else none
theorem im_inner (g:(Int×(Int×((List Int)×((List Int)×((List Int)×Unit)))))->(Option ((List Int)×Unit))) (F:Option ((List Int)×Unit)) {xs ys:List Int} (hx:dig B32 xs=true) (hy:dig B32 ys=true) (hlx:xs.length<=10000000000) (hly:ys.length<=10000000000) {i:Nat} (hi:i<xs.length) (K:Nat) (hK:ys.length<K)
  (hg:g (((i+1:Nat):Int),((xs.length:Int),(xs,(ys,(fd B32 (xs.length+ys.length) (a0c B32 (xs.take (i+1))*a0c B32 ys),())))))=F):
  loopP (P.b2h g) K ((0:Int),((ys.length:Int),(ys,((0:Int),(xs.getD i 0,(fd B32 (xs.length+ys.length) (a0c B32 (xs.take i)*a0c B32 ys),((i:Int),(ys,((i:Int),((xs.length:Int),(xs,())))))))))))=F:=by
 have hA:=b6x a0e hx hy i (by omega);have hA':=b6x a0e hx hy (i+1) (by omega);have gx:=a1e (B:=B32) (by decide) hx i;have gx1:xs.getD i 0<4294967296:=gx.2;have gx0:=gx.1;rw[a2i,Nat.add_mul,Nat.mul_assoc]at hg hA';generalize a0c B32 (xs.take i)*a0c B32 ys=A at*;obtain⟨x,hxe⟩:∃x:Nat,xs.getD i 0=(x:Int):=⟨(xs.getD i 0).toNat,by omega⟩
 rw[hxe,Int.toNat_natCast]at hg hA';rw[hxe]at gx1 ⊢;have hxB:x<B32:=by show x<4294967296;omega
 have hsh:=mul_shape a0e hi hA;rw[hsh];have hlw:(fd B32 ys.length (A/B32^i)).length=ys.length:=a2x _ _ _;have hdw:dig B32 (fd B32 ys.length (A/B32^i))=true:=b5u (by decide) _ _;have hvw:a0c B32 (fd B32 ys.length (A/B32^i))=A/B32^i:=by
  rw[b8m,Nat.mod_eq_of_lt];rw[Nat.div_lt_iff_lt_mul (Nat.pow_pos (by decide)),<-Nat.pow_add,Nat.add_comm];exact hA
 have hnext:=mul_next a0e (la:=xs.length) (lb:=ys.length) (R:=x*a0c B32 ys) hi hA';generalize hR:List.replicate (xs.length - 1 - i) (0:Int)=R at*;have hRl:R.length=xs.length - 1 - i:=by rw[<-hR,List.length_replicate]
 generalize hW:fd B32 ys.length (A/B32^i)=W at*;have hl0:(fd B32 i A).length=i:=a2x _ _ _;have key:=a0f (k:=K) (b:=P.b2h g) (n:=ys.length) (st:=fun k=>((k:Int),(ys.length:Int),ys,((b9a B32 x W ys k).2:Int),(x:Int),(fd B32 i A++(b9a B32 x W ys k).1)++(W.drop k++(0:Int)::R),(i:Int),ys,(i:Int),(xs.length:Int),xs,())) (F:=fun k=>F) (fun k g' hk hg'=>by
  unfold P.b2h;dsimp only at hg' ⊢;refine Eq.trans ?_ hg';clear hg';obtain⟨q1,q2,q3,q4⟩:=e2d (x:=x) a0e hxB hdw hy k;have q4':(b9a B32 x W ys k).2<4294967296:=q4;have gy:=a1e (B:=B32) (by decide) hy k;have gw:=a1e (B:=B32) (by decide) hdw k;have gy1:ys.getD k 0<4294967296:=gy.2;have gw1:W.getD k 0<4294967296:=gw.2;have gy0:=gy.1;have gw0:=gw.1;have hAl:(fd B32 i A++(b9a B32 x W ys k).1).length=i+k:=by rw[List.length_append,hl0,q2]
  have hlen:((fd B32 i A++(b9a B32 x W ys k).1)++(W.drop k++(0:Int)::R)).length=xs.length+ys.length:=by
   rw[List.length_append,hAl,List.length_append,List.length_drop,List.length_cons,hlw,hRl];omega
  have e1:(k:Int)<(ys.length:Int):=by omega
  have e2:(0:Int)<=(k:Int):=by omega
  have e3:(0:Int)<=((i+k:Nat):Int):=by omega
  have e4:((i+k:Nat):Int)<((xs.length+ys.length:Nat):Int):=by omega
  rw[hlen,<-Int.natCast_add i k,wr (x:=((i+k:Nat):Int)) (by omega) (by omega)];simp only[e1,e2,e3,e4,decide_true,if_true,Nat.zero_add,Int.toNat_natCast];rw[a2t (xs:=W) (i:=k) (by omega),List.cons_append,b1l hAl];simp only[b2v hAl];rw[b9a];dsimp only;generalize W.getD k 0=w at*;generalize ys.getD k 0=y at*;generalize b9a B32 x W ys k=p at*;obtain⟨pl,c0⟩:=p;dsimp only at*;obtain⟨Y,rfl⟩:∃Y:Nat,y=(Y:Int):=⟨y.toNat,by omega⟩
  obtain⟨w',rfl⟩:∃Y:Nat,w=(Y:Int):=⟨w.toNat,by omega⟩
  rw[Int.toNat_natCast,Int.toNat_natCast];have hxY:x*Y<=4294967295*4294967295:=Nat.mul_le_mul (by omega) (by omega);rw[wu (x:=(x:Int)) (by omega) (by omega),wu (x:=(Y:Int)) (by omega) (by omega),<-Int.natCast_mul,wu (x:=((x*Y:Nat):Int)) (by omega) (by omega),wu (x:=(w':Int)) (by omega) (by omega),<-Int.natCast_add,wu (x:=((x*Y+w':Nat):Int)) (by omega) (by omega),<-Int.natCast_add,wu (x:=((c0+(x*Y+w'):Nat):Int)) (by omega) (by omega),Int.fdiv_eq_ediv_of_nonneg _ (by omega),c4q,wr (x:=(k:Int)+1) (by omega) (by omega)];have e8:((c0+(x*Y+w'):Nat):Int)%4294967296=(((c0+(x*Y+w'))%B32:Nat):Int):=by
   show _=(((c0+(x*Y+w'))%4294967296:Nat):Int)
   omega
  have e9:((c0+(x*Y+w'):Nat):Int)/4294967296=(((c0+(x*Y+w'))/B32:Nat):Int):=by
   show _=(((c0+(x*Y+w'))/4294967296:Nat):Int)
   omega
  rw[e8,e9,<-List.append_assoc (fd B32 i A)];rfl) (fun g'=>by
  unfold P.b2h;dsimp only;obtain⟨q1,q2,q3,q4⟩:=e2d (x:=x) a0e hxB hdw hy ys.length;have q4':(b9a B32 x W ys ys.length).2<4294967296:=q4;rw[List.take_length,<-hlw,List.take_length,hlw,hvw]at q3;have hAl:(fd B32 i A++(b9a B32 x W ys ys.length).1).length=i+ys.length:=by rw[List.length_append,hl0,q2]
  have hlen:((fd B32 i A++(b9a B32 x W ys ys.length).1)++(W.drop ys.length++(0:Int)::R)).length=xs.length+ys.length:=by
   rw[List.length_append,hAl,List.length_append,List.length_drop,List.length_cons,hlw,hRl];omega
  have e1:¬((ys.length:Int)<(ys.length:Int)):=by omega
  have e3:(0:Int)<=((i+ys.length:Nat):Int):=by omega
  have e4:((i+ys.length:Nat):Int)<((xs.length+ys.length:Nat):Int):=by omega
  rw[hlen,<-Int.natCast_add i ys.length,wr (x:=((i+ys.length:Nat):Int)) (by omega) (by omega)];simp only[e1,e3,e4,decide_true,decide_false,if_true,if_false,Bool.false_eq_true,Nat.zero_add,Int.toNat_natCast];rw[List.drop_of_length_le (by omega),List.nil_append,b2v hAl,w32 (by omega) (by omega),wr (x:=(i:Int)+1) (by omega) (by omega)];generalize b9a B32 x W ys ys.length=p at*;obtain⟨pl,c0⟩:=p;dsimp only at*;have hlt:=a1p q1;rw[q2]at hlt;have hpl:pl=fd B32 ys.length (A/B32^i+x*a0c B32 ys):=by
   have:=fd_eq a0e q1 q2 rfl;rw[this,<-q3,<-c1v B32 ys.length (_+_),Nat.add_mul_mod_self_left,c1v]
  have hc0:c0=(A/B32^i+x*a0c B32 ys)/B32^ys.length:=by
   rw[<-q3,Nat.add_mul_div_left _ _ (Nat.pow_pos (by decide)),Nat.div_eq_of_lt hlt,Nat.zero_add]
  rw[List.append_assoc _ [_],List.singleton_append,hpl,hc0,hnext];exact hg) hK
 rw[show(fd B32 i A++(b9a B32 x W ys 0).1)++(W.drop 0++(0:Int)::R)=(fd B32 i A++W)++(0:Int)::R by rw[show(b9a B32 x W ys 0).1=[]from rfl,List.append_nil,List.drop_zero,List.append_assoc]]at key;exact key
def S.a2n (x:((List Int)×((List Int)×Unit))):(Option ((List Int)×Unit)):=if dig B32 x.1=true/\dig B32 x.2.1=true/\x.1.length<=10000000000/\x.2.1.length<=10000000000 then some (nd B32 (a0c B32 x.1*a0c B32 x.2.1),())else none
theorem S.e3v (x r) (h:S.a2n x=some r):∃k,P.d0w k x=some r:=by
 obtain⟨xs,ys,u⟩:=x;unfold S.a2n at h;dsimp only at h;split at h
 case isFalse=>cases h
 rename_i hc;obtain⟨dx,dy,lx,ly⟩:=hc;cases h;refine⟨xs.length+ys.length+1,?_⟩;unfold P.d0w;dsimp only;have a1:(0:Int)<=((xs.length+ys.length:Nat):Int):=by omega
 have a2:((xs.length+ys.length:Nat):Int)*4<=281474976710656:=by omega
 rw[<-Int.natCast_add,wr (x:=((xs.length+ys.length:Nat):Int)) (by omega) (by omega)];simp only[a1,a2,decide_true,if_true,Int.le_refl,Int.toNat_natCast];have key:=a0f (k:=xs.length+ys.length+1) (b:=P.b5j (xs.length+ys.length+1)) (n:=xs.length) (st:=fun i=>((i:Int),(xs.length:Int),xs,ys,fd B32 (xs.length+ys.length) (a0c B32 (xs.take i)*a0c B32 ys),())) (F:=fun i=>some (nd B32 (a0c B32 xs*a0c B32 ys),())) (fun i g hi hg=>by
  unfold P.b5j;dsimp only at hg ⊢;have e1:(i:Int)<(xs.length:Int):=by omega
  have e2:(0:Int)<=(i:Int):=by omega
  simp only[e1,e2,decide_true,if_true,Int.toNat_natCast];exact im_inner g _ dx dy lx ly hi _ (by omega) hg) (fun g=>by
  unfold P.b5j;dsimp only;rw[if_neg (by simp),List.take_length];unfold S.a3p;dsimp only;have hb:=b6x a0e dx dy xs.length (Nat.le_refl _);rw[List.take_length]at hb;rw[if_pos ⟨b5u (by decide) _ _,by rw[a2x];omega⟩,Option.bind_some,nd_fd a0e hb]) (by omega)
 rw[List.take_zero,show a0c B32 []*a0c B32 ys=0 by simp [a0c],fd_zero]at key;exact key
def P.c5o (k:Nat) (x:RB×Unit):Option (Int×Unit):=
 if(x.1.2.1.length:Int)==0 then some (0,())else if x.1.1 then some ((-1:Int),())else some (1,())
def S.a0y (x:(RB×Unit)):(Option (Int×Unit)):=if a2o B32 x.1.2.1=true then some (e2x x.1.1 (a0c B32 x.1.2.1),())else none
theorem S.d8s (x r) (h:S.a0y x=some r):∃k,P.c5o k x=some r:=by
 obtain⟨⟨n,as,bs⟩,u⟩:=x;unfold S.a0y at h;dsimp only at h;split at h
 case isFalse=>cases h
 rename_i ca;cases h;refine⟨0,?_⟩;unfold P.c5o e2x;dsimp only;have h:=b0h a0e ca
 by_cases h0:as=[]
 ·rw[if_pos (h.1 h0),h0,if_pos (by rfl)]
 ·rw[if_neg (fun q=>h0 (h.2 q)),if_neg (by simpa using h0)];cases n<;>rfl
def P.c3p (k:Nat) (x:RB×RB×Unit):Option (Int×Unit):=
 (S.a0y ((x.1.1,x.1.2.1,x.1.2.2),())).bind fun y0=>(S.a0y ((x.2.1.1,x.2.1.2.1,x.2.1.2.2),())).bind fun y1=>if y0.1 != y1.1 then(S.a0y ((x.1.1,x.1.2.1,x.1.2.2),())).bind fun y2=>(S.a0y ((x.2.1.1,x.2.1.2.1,x.2.1.2.2),())).bind fun y3=>some (wrap .i64 (y2.1 - y3.1),())else(S.a2n (x.1.2.1,x.2.1.2.2,())).bind fun y4=>(S.a2n (x.2.1.2.1,x.1.2.2,())).bind fun y5=>(S.a1m (y4.1,y5.1,())).bind fun y6=>if x.1.1 then some (wrap .i64 (0 - y6.1),())else some (y6.1,())
def S.c3q (x:(RB×(RB×Unit))):(Option (Int×Unit)):=P.c3p 0 x
theorem S.e3w (x r) (h:S.c3q x=some r):∃k,P.c3p k x=some r:=⟨0,h⟩
def P.c2b (k:Nat) (x:RB×Unit):Option (Bool×Unit):=
 (S.a2l (1,())).bind fun y0=>(S.c3q ((x.1.1,x.1.2.1,x.1.2.2),(y0.1.1,y0.1.2.1,y0.1.2.2),())).bind fun y1=>some (y1.1==0,())
def S.a4k (x:(RB×Unit)):(Option (Bool×Unit)):=if rok B32 40000000 x.1=true/\qok (rv B32 x.1)=true then some (c0n (rv B32 x.1),())else none
theorem S.d5a (x r) (h:S.a4k x=some r):∃k,P.c2b k x=some r:=by
 obtain⟨x,u⟩:=x;unfold S.a4k at h;dsimp only at h;split at h
 case isFalse=>cases h
 rename_i hc;obtain⟨hr,hq⟩:=hc;obtain⟨n,p,q,rfl,l1,l2⟩:=b0t hr;rw[b9b a0e]at h hq;rw[d4d]at hq;obtain⟨h0,h1⟩:=hq;dsimp only at h0 h1;cases h;refine⟨0,?_⟩;have hw:S.a2l (1,())=some ((false,(nd B32 1,nd B32 1)),()):=by rfl
 unfold P.c2b c0n;dsimp only;rw[hw,Option.bind_some];dsimp only;unfold S.c3q P.c3p;dsimp only;have hs:∀(n:Bool) (p:Nat) (ys:List Int),S.a0y ((n,(nd B32 p,ys)),())=some (e2x n p,()):=by
  intro n p ys;unfold S.a0y;dsimp only;rw[if_pos (a0m a0e _),a0i a0e]
 have o1:(nd B32 1).length<=40000000:=by rw[nd_one a0e];decide
 have em:∀p q,(nd B32 p).length<=40000000->(nd B32 q).length<=40000000->S.a2n (nd B32 p,(nd B32 q,()))=some (nd B32 (p*q),()):=by
  intro p q hp hq;unfold S.a2n;dsimp only;rw[if_pos ⟨a3w a0e _,a3w a0e _,by omega,by omega⟩,a0i a0e,a0i a0e]
 have ec:S.a1m (nd B32 (p*1),(nd B32 (1*q),()))=some (b1i (p*1) (1*q),()):=by
  unfold S.a1m;dsimp only;rw[if_pos ⟨a0m a0e _,a0m a0e _,by rw[Nat.mul_one];omega⟩,a0i a0e,a0i a0e]
 rw[hs,Option.bind_some,hs,Option.bind_some];dsimp only;have s1:e2x false 1=1:=rfl;rw[s1]
 by_cases hp:p=0
 ·subst hp;rw[decide_eq_false (fun z=>by have:=z.2;omega)];rfl
 ·cases n
  ·have s2:e2x false p=1:=by
    unfold e2x;rw[if_neg hp];rfl
   rw[s2,if_neg (by decide),em _ _ l1 o1,Option.bind_some,em _ _ o1 l2,Option.bind_some];dsimp only;rw[ec,Option.bind_some];dsimp only;rw[if_neg (by decide),Option.bind_some];have hz:=a5a (a:=p*1) (b:=1*q);rw[Nat.mul_one,Nat.one_mul]at hz ⊢
   by_cases he:p=q
   ·rw[decide_eq_true ⟨rfl,he⟩,hz.2 he];rfl
   ·rw[decide_eq_false (fun z=>he z.2)];dsimp only;rw[beq_eq_false_iff_ne.2 (fun z=>he (hz.1 z))]
  ·have s2:e2x true p= -1:=by
    unfold e2x;rw[if_neg hp];rfl
   rw[s2,decide_eq_false (fun z=>by cases z.1)];rfl
def S.a4g (x:(Int×(Int×Unit))):(Option (ByteArray×Unit)):=if x.2.1=10/\0<=x.1/\x.1<18446744073709551616 then some (⟨(Go.Lib.decDigits x.1.toNat).toArray⟩,())else none
def joinB (xs:List ByteArray) (sep:ByteArray):List UInt8:=Go.Lib.join (xs.map (·.data.toList)) sep.data.toList
def S.b2i (x:((List ByteArray)×(ByteArray×Unit))):(Option (ByteArray×Unit)):=if x.1.length<=140737488355328/\(joinB x.1 x.2.1).length<=140737488355328 then some (⟨(joinB x.1 x.2.1).toArray⟩,())else none
def S.a7p (x:(ByteArray×(Int×Unit))):(Option (ByteArray×Unit)):=if 0<=x.2.1/\x.2.1<=1000000/\x.1.size<=1000000 then some (⟨(Go.Lib.repeatL x.1.data.toList x.2.1.toNat).toArray⟩,())else none
abbrev P.a1x (x1:Int×Int×List ByteArray×Unit) (g2:Int×Int×List ByteArray×Unit->Option (Unit×List ByteArray×Unit)):Option (Unit×List ByteArray×Unit):=
 (fun(a b:Int) (c:List ByteArray)=>if decide (a<b)then if decide (0<=b)then if decide (b<(c.length:Int))then if decide (0<=a)then if decide (a<(c.length:Int))then if decide (0<=a)then if decide (a<(c.length:Int))then if decide (0<=b)then if decide (b<(List.length (c.set (0+a.toNat) (c.getD (0+b.toNat) (bs []))):Int))then g2 (wrap .i64 (a+1),wrap .i64 (b - 1),List.set (c.set (0+a.toNat) (c.getD (0+b.toNat) (bs []))) (0+b.toNat) (c.getD (0+a.toNat) (bs [])),())else none else none else none else none else none else none else none else none else some ((),c,())) x1.1 x1.2.1 x1.2.2.1
def P.a3e (k:Nat) (x:List ByteArray×Unit):Option (Unit×List ByteArray×Unit):=
 loopP P.a1x k (0,wrap .i64 ((x.1.length:Int) - 1),x.1,())
def rvd (xs:List ByteArray) (t:Nat):List ByteArray:=(List.range xs.length).map fun p=>if p<t\/xs.length - t<=p then xs.getD (xs.length - 1 - p) (bs [])else xs.getD p (bs [])
theorem b7j (xs:List ByteArray) (t:Nat):(rvd xs t).length=xs.length:=by simp [rvd]
theorem c5p (xs:List ByteArray) (t p:Nat) (h:p<xs.length):(rvd xs t).getD p (bs [])=if p<t\/xs.length - t<=p then xs.getD (xs.length - 1 - p) (bs [])else xs.getD p (bs []):=by
 unfold rvd;rw[List.getD_eq_getElem?_getD,List.getElem?_map,List.getElem?_range h];rfl
theorem d8t {xs ys:List ByteArray} (hl:xs.length=ys.length) (h:∀p,p<xs.length->xs.getD p (bs [])=ys.getD p (bs [])):xs=ys:=by
 apply List.ext_getElem hl;intro i h1 h2;have:=h i h1;simpa [h1,h2]using this
theorem rvd_end (xs:List ByteArray):rvd xs (xs.length/2)=xs.reverse:=by
 apply d8t (by rw[b7j,List.length_reverse]);intro p hp;rw[b7j]at hp;rw[c5p _ _ _ hp];have e:xs.reverse.getD p (bs [])=xs.getD (xs.length - 1 - p) (bs []):=by
  rw[List.getD_eq_getElem?_getD,List.getElem?_reverse hp,<-List.getD_eq_getElem?_getD]
 rw[e];split
 ·rfl
 ·rename_i hq;have:xs.length - 1 - p=p:=by omega
  rw[this]
theorem e3x (l:List ByteArray) (i p:Nat) (v:ByteArray) (h:p<l.length):(l.set i v).getD p (bs [])=if p=i then v else l.getD p (bs []):=by
 rw[List.getD_eq_getElem?_getD,List.getElem?_set]
 by_cases e:i=p
 ·subst e;simp [h]
 ·rw[if_neg e,if_neg (fun q=>e q.symm),<-List.getD_eq_getElem?_getD]
theorem rvd_step (xs:List ByteArray) (t:Nat) (ht:t<xs.length/2):((rvd xs t).set t ((rvd xs t).getD (xs.length - 1 - t) (bs []))).set (xs.length - 1 - t) ((rvd xs t).getD t (bs []))=rvd xs (t+1):=by
 apply d8t (by simp [b7j]);intro p hp;simp only[List.length_set,b7j]at hp;rw[e3x _ _ _ _ (by simp [b7j];exact hp),e3x _ _ _ _ (by rw[b7j];exact hp),c5p _ _ _ hp,c5p _ _ _ hp,c5p _ _ _ (show t<xs.length by omega),c5p _ _ _ (show xs.length - 1 - t<xs.length by omega)];rw[if_neg (show ¬(t<t\/xs.length - t<=t) by omega),if_neg (show ¬(xs.length - 1 - t<t\/xs.length - t<=xs.length - 1 - t) by omega)]
 by_cases h1:p=xs.length - 1 - t
 ·rw[if_pos h1,if_pos (by omega)];congr 1;omega
 ·rw[if_neg h1]
  by_cases h2:p=t
  ·rw[if_pos h2,if_pos (by omega)];congr 1;omega
  ·rw[if_neg h2]
   by_cases h3:p<t\/xs.length - t<=p
   ·rw[if_pos h3,if_pos (by omega)]
   ·rw[if_neg h3,if_neg (by omega)]
def S.a1b (x:((List ByteArray)×Unit)):(Option (Unit×((List ByteArray)×Unit))):=if x.1.length<=1000000000 then some ((),(x.1.reverse,()))else none
theorem S.b0m (x r) (h:S.a1b x=some r):∃k,P.a3e k x=some r:=by
 obtain⟨xs,u⟩:=x;unfold S.a1b at h;dsimp only at h;split at h
 case isFalse=>cases h
 rename_i hl;cases h;refine⟨xs.length/2+1,?_⟩;unfold P.a3e;dsimp only;rw[wr (by omega) (by omega)];have key:=a0f (k:=xs.length/2+1) (b:=P.a1x) (n:=xs.length/2) (st:=fun t=>((t:Int),(xs.length:Int) - 1 - (t:Int),rvd xs t,())) (F:=fun t=>some ((),(xs.reverse,()))) (fun t g ht hg=>by
  unfold P.a1x;dsimp only at hg ⊢;have e5:(xs.length:Int) - 1 - (t:Int)=((xs.length - 1 - t:Nat):Int):=by omega
  rw[e5];have e1:(t:Int)<((xs.length - 1 - t:Nat):Int):=by omega
  have e2:(0:Int)<=((xs.length - 1 - t:Nat):Int):=by omega
  have e3:((xs.length - 1 - t:Nat):Int)<(xs.length:Int):=by omega
  have e4:(0:Int)<=(t:Int):=by omega
  have e6:(t:Int)<(xs.length:Int):=by omega
  simp only[b7j,List.length_set,e1,e2,e3,e4,e6,decide_true,if_true,Int.toNat_natCast,Nat.zero_add];rw[rvd_step xs t ht,wr (by omega) (by omega),wr (by omega) (by omega),<-hg];congr 1
  all_goals (simp only[Prod.mk.injEq];and_intros<;>first|rfl|omega|trivial)) (fun g=>by
  unfold P.a1x;dsimp only;rw[if_neg (by simp;omega),rvd_end]) (by omega)
 have e0:rvd xs 0=xs:=by
  apply d8t (b7j _ _);intro p hp;rw[b7j]at hp;rw[c5p _ _ _ hp,if_neg (by omega)]
 rw[show(xs.length:Int) - 1 - ((0:Nat):Int)=(xs.length:Int) - 1 by omega,e0]at key;exact key
abbrev P.a7b (x1:Int×Int×List Int×List Int×Int×Unit) (g2:Int×Int×List Int×List Int×Int×Unit->Option ((List Int×Int)×Unit)):Option ((List Int×Int)×Unit):=
 (fun(a b e:Int) (c d:List Int)=>if decide (a>=0)then if decide (0<=a)then if decide (a<(c.length:Int))then if decide ((wrap .u64 e)=0)then none else if decide (0<=a)then if decide (a<(d.length:Int))then if decide ((wrap .u64 e)=0)then none else g2 (wrap .i64 (a - 1),Int.tmod (wrap .u64 ((wrap .u64 (b*4294967296))+(wrap .u64 (c.getD a.toNat 0)))) (wrap .u64 e),c,d.set (0+a.toNat) (wrap .u32 (wrap .u64 (Int.tdiv (wrap .u64 ((wrap .u64 (b*4294967296))+(wrap .u64 (c.getD a.toNat 0)))) (wrap .u64 e)))),e,())else none else none else none else none else(S.a3p (d,())).bind fun y3=>some ((y3.1,wrap .u32 b),())) x1.1 x1.2.1 x1.2.2.2.2.1 x1.2.2.1 x1.2.2.2.1
def P.b5y (k:Nat) (x:List Int×Int×Unit):Option ((List Int×Int)×Unit):=
 if decide (0<=(x.1.length:Int))then if decide ((x.1.length:Int)<=(x.1.length:Int))then if decide (((x.1.length:Int)*4)<=281474976710656)then loopP P.a7b k (wrap .i64 ((x.1.length:Int) - 1),0,x.1,List.replicate (Int.toNat (x.1.length:Int)) 0,x.2.1,())else none else none else none
def S.a2p (x:((List Int)×(Int×Unit))):(Option (((List Int)×Int)×Unit)):=if dig B32 x.1=true/\0<x.2.1/\x.2.1<4294967296/\x.1.length<=1000000000000 then some ((nd B32 (a0c B32 x.1/x.2.1.toNat),((a0c B32 x.1%x.2.1.toNat:Nat):Int)),())else none
theorem S.c5q (x r) (h:S.a2p x=some r):∃k,P.b5y k x=some r:=by
 obtain⟨xs,b,u⟩:=x;unfold S.a2p at h;dsimp only at h;split at h
 case isFalse=>cases h
 rename_i hc;obtain⟨hd,hb0,hb1,hl⟩:=hc;cases h;refine⟨xs.length+1,?_⟩;unfold P.b5y;dsimp only;have a1:(0:Int)<=(xs.length:Int):=by omega
 have a2:(xs.length:Int)<=(xs.length:Int):=by omega
 have a3:(xs.length:Int)*4<=281474976710656:=by omega
 simp only[a1,a2,a3,decide_true,if_true];rw[wr (by omega) (by omega),Int.toNat_natCast];have hdr:∀m,dig B32 (xs.drop m)=true:=by
  intro m;have:=List.take_append_drop m xs;have hd':=hd;rw[<-this,a1o,Bool.and_eq_true]at hd';exact hd'.2
 have hbN:0<b.toNat:=by omega
 have key:=a0f (k:=xs.length+1) (b:=P.a7b) (n:=xs.length) (st:=fun j=>((xs.length:Int) - 1 - (j:Int),((d0c B32 b.toNat (xs.drop (xs.length - j))).2:Int),xs,List.replicate (xs.length - j) (0:Int)++(d0c B32 b.toNat (xs.drop (xs.length - j))).1,b,())) (F:=fun j=>some ((nd B32 (a0c B32 xs/b.toNat),((a0c B32 xs%b.toNat:Nat):Int)),())) (fun j g hj hg=>by
  unfold P.a7b;dsimp only at hg ⊢;obtain⟨q1,q2,q3,q4⟩:=e2a B32 b.toNat hbN (xs.drop (xs.length - j)) (hdr _);have hi:xs.length - (j+1)<xs.length:=by omega
  have e5:(xs.length:Int) - 1 - (j:Int)=((xs.length - (j+1):Nat):Int):=by omega
  have e6:xs.drop (xs.length - (j+1))=xs[xs.length - (j+1)]::xs.drop (xs.length - j):=by
   rw[List.drop_eq_getElem_cons hi];congr 2;omega
  have e7:xs.length - j=(xs.length - (j+1))+1:=by omega
  have hlen:(List.replicate (xs.length - j) (0:Int)++(d0c B32 b.toNat (xs.drop (xs.length - j))).1).length=xs.length:=by
   rw[List.length_append,List.length_replicate,q2,List.length_drop];omega
  have hx:=b6c hd hi;have hx1:xs[xs.length - (j+1)]<4294967296:=hx.2;have hx0:=hx.1;have hm:(d0c B32 b.toNat (xs.drop (xs.length - j))).2<b.toNat:=by rw[q4];exact Nat.mod_lt _ hbN
  rw[e6]at hg;rw[hlen,e5,a0o xs _ _ hi];have a1:((xs.length - (j+1):Nat):Int)>=0:=by omega
  have a2:(0:Int)<=((xs.length - (j+1):Nat):Int):=by omega
  have a3:((xs.length - (j+1):Nat):Int)<(xs.length:Int):=by omega
  rw[wu (x:=b) (by omega) (by omega)];have a4:¬(b=0):=by omega
  simp only[a1,a3,a4,decide_true,decide_false,if_true,if_false,Bool.false_eq_true];generalize hR:(d0c B32 b.toNat (xs.drop (xs.length - j))).2=R at*;generalize hX:xs[xs.length - (j+1)]=X at*;have hRX:(R:Int)*4294967296+X<b*4294967296:=by omega
  rw[wu (x:=(R:Int)*4294967296) (by omega) (by omega),wu (x:=X) (by omega) (by omega),wu (x:=(R:Int)*4294967296+X) (by omega) (by omega)];have eT:Int.tdiv ((R:Int)*4294967296+X) b=(((R*B32+X.toNat)/b.toNat:Nat):Int):=by
   rw[Int.tdiv_eq_ediv_of_nonneg (by omega)];have:(R:Int)*4294967296+X=((R*4294967296+X.toNat:Nat):Int):=by omega
   rw[this];have hb:b=((b.toNat:Nat):Int):=by omega
   conv=>lhs;rw[hb]
   exact(Int.natCast_ediv _ _).symm
  have eM:Int.tmod ((R:Int)*4294967296+X) b=(((R*B32+X.toNat)%b.toNat:Nat):Int):=by
   rw[Int.tmod_eq_emod_of_nonneg (by omega)];have:(R:Int)*4294967296+X=((R*4294967296+X.toNat:Nat):Int):=by omega
   rw[this];have hb:b=((b.toNat:Nat):Int):=by omega
   conv=>lhs;rw[hb]
   exact(Int.natCast_emod _ _).symm
  have hQ:(R*B32+X.toNat)/b.toNat<B32:=(Nat.div_lt_iff_lt_mul hbN).2 (by
   show R*4294967296+X.toNat<4294967296*b.toNat;omega)
  have hQ':(R*B32+X.toNat)/b.toNat<4294967296:=hQ;have z0:(0:Int)<=(((R*B32+X.toNat)/b.toNat:Nat):Int):=Int.natCast_nonneg _;have z1:(((R*B32+X.toNat)/b.toNat:Nat):Int)<4294967296:=Int.ofNat_lt.2 hQ';rw[eT,eM,wu z0 (Int.lt_trans z1 (by decide)),w32 z0 z1,wr (x:=((xs.length - (j+1):Nat):Int) - 1) (by omega) (by omega),Nat.zero_add,Int.toNat_natCast];have hset:∀(Q:List Int) (v:Int),(List.replicate (xs.length - j) (0:Int)++Q).set (xs.length - (j+1)) v=List.replicate (xs.length - (j+1)) 0++v::Q:=by
   intro Q v;rw[e7];exact e2b _ _ _
  rw[hset,<-hg];congr 1;simp only[Prod.mk.injEq,d0c];rw[hR]
  and_intros<;>first|rfl|omega|trivial) (fun g=>by
  unfold P.a7b;dsimp only;obtain⟨q1,q2,q3,q4⟩:=e2a B32 b.toNat hbN xs hd;rw[if_neg (by simp;omega),Nat.sub_self,List.drop_zero,List.replicate_zero,List.nil_append,trim_i _ q1 (by omega),Option.bind_some,q3,q4];have hm:=Nat.mod_lt (a0c B32 xs) hbN;rw[w32 (by omega) (by omega)]) (by omega)
 rw[show(xs.length:Int) - 1 - ((0:Nat):Int)=(xs.length:Int) - 1 by omega,Nat.sub_zero,List.drop_length]at key;simpa [d0c]using key
abbrev P.b7k (x1:List Int×List ByteArray×Unit) (g2:List Int×List ByteArray×Unit->Option (ByteArray×Unit)):Option (ByteArray×Unit):=
 if decide ((x1.1.length:Int)>0)then(S.a2p (x1.1,1000000000,())).bind fun y3=>(S.a4g (wrap .u64 y3.1.2,10,())).bind fun y4=>if decide ((y3.1.1.length:Int)>0)then(S.a7p (bs [48],wrap .i64 (9 - (y4.1.size:Int)),())).bind fun y5=>if decide ((y5.1.size+y4.1.size)<=9223372036854775807)then if decide (((x1.2.1.length+(List.length [y5.1++y4.1]))*16)<=140737488355328)then g2 (y3.1.1,x1.2.1++[y5.1++y4.1],())else none else none else if decide (((x1.2.1.length+(List.length [y4.1]))*16)<=140737488355328)then g2 (y3.1.1,x1.2.1++[y4.1],())else none else(S.a1b (x1.2.1,())).bind fun y6=>(S.b2i (splice x1.2.1 y6.2.1 0,bs [],())).bind fun y7=>some (y7.1,())
def P.c5r (k:Nat) (x:List Int×Unit):Option (ByteArray×Unit):=
 if(x.1.length:Int)==0 then some (bs [48],())else loopP P.b7k k (x.1,[],())
def mkB (l:List UInt8):ByteArray:=⟨l.toArray⟩
theorem join_empty (xs:List (List UInt8)):Go.Lib.join xs []=xs.flatten:=by
 cases xs with
 |nil=>rfl
 |cons x r=>
  rw[Go.Lib.join_cons,List.flatten_cons];congr 1;unfold Go.Lib.joinTail;simp
theorem it_loop (n:Nat):∀(acc:List ByteArray) (k:Nat),n<k->(nd B32 n).length<=40000000->acc.length+(a3x n).length<=1000000000->
  loopP P.b7k k (nd B32 n,(acc,()))=Option.bind (S.a1b (acc++(a3x n).map mkB,())) (fun y6=>Option.bind (S.b2i (Go.Cm.splice (acc++(a3x n).map mkB) y6.2.1 0,(bs [],()))) (fun y7=>some (y7.1,()))):=by
 induction n using Nat.strongRecOn with
 |ind n ih=>
  intro acc k hk hl hacc;obtain⟨k,rfl⟩:∃j,k=j+1:=⟨k - 1,by omega⟩
  rw[a0l];unfold P.b7k;dsimp only
  by_cases hn:n=0
  ·subst hn;rw[a1v a0e,b1y,if_neg (by simp),List.map_nil,List.append_nil]
  ·have hpos:((nd B32 n).length:Int)>0:=by
    rw[b4y a0e hn,List.length_cons];omega
   rw[if_pos (decide_eq_true hpos)];have sd:S.a2p (nd B32 n,(1000000000,()))=some ((nd B32 (n/1000000000),((n%1000000000:Nat):Int)),()):=by
    unfold S.a2p;dsimp only;rw[if_pos ⟨a3w a0e _,by omega,by omega,by omega⟩,a0i a0e];rfl
   rw[sd,Option.bind_some];dsimp only;have hm:n%1000000000<1000000000:=Nat.mod_lt _ (by decide);have sf:S.a4g (IntKind.wrap .u64 ((n%1000000000:Nat):Int),(10,()))=some (mkB (Go.Lib.decDigits (n%1000000000)),()):=by
    rw[wu (by omega) (by omega)];unfold S.a4g;dsimp only;rw[if_pos ⟨rfl,by omega,by omega⟩,Int.toNat_natCast];rfl
   rw[sf,Option.bind_some];dsimp only;obtain⟨p1,p2⟩:=dec_pad 9 (n%1000000000) (by decide) (by rw[show(10:Nat)^9=1000000000 by decide];exact hm);have hsz:(mkB (Go.Lib.decDigits (n%1000000000))).size=(Go.Lib.decDigits (n%1000000000)).length:=c7h _;have hsh:(nd B32 (n/1000000000)).length<=40000000:=by
    refine Nat.le_trans ?_ hl;rw[a4j a0e];exact Nat.lt_of_le_of_lt (Nat.div_le_self _ _) ((a4j a0e n _).1 (Nat.le_refl _))
   by_cases h1:n/1000000000=0
   ·rw[b3p hn h1,List.length_singleton]at hacc;have hmn:n%1000000000=n:=by omega
    have hc:(acc.length+ [mkB (Go.Lib.decDigits n)].length)*16<=140737488355328:=by
     rw[List.length_singleton];omega
    have hz:¬(((nd B32 0).length:Int)>0):=by rw[a1v a0e];simp
    have hi:=ih 0 (by omega) (acc++[mkB (Go.Lib.decDigits n)]) k (by omega) (by rw[a1v a0e];simp) (by rw[b1y];simp;omega);rw[h1,hmn,if_neg (by simpa using hz),if_pos (decide_eq_true hc),hi,b1y,b3p hn h1,List.map_nil,List.append_nil];rfl
   ·rw[b1z h1,List.length_cons]at hacc;have hz:((nd B32 (n/1000000000)).length:Int)>0:=by
     rw[b4y a0e h1,List.length_cons];omega
    have sr:S.a7p (bs [48],(IntKind.wrap .i64 (9 - (((mkB (Go.Lib.decDigits (n%1000000000))).size:Nat):Int)),()))=some (mkB (List.replicate (9 - (Go.Lib.decDigits (n%1000000000)).length) 48),()):=by
     rw[hsz,wr (by omega) (by omega)];unfold S.a7p;dsimp only;have h48:(bs [48]).data.toList=[48]:=rfl;rw[if_pos ⟨by omega,by omega,by decide⟩,h48,repeatL_one,show((9:Int) - ((Go.Lib.decDigits (n%1000000000)).length:Int)).toNat=9 - (Go.Lib.decDigits (n%1000000000)).length by omega];rfl
    rw[if_pos (decide_eq_true hz),sr,Option.bind_some];dsimp only;have hsum:(mkB (List.replicate (9 - (Go.Lib.decDigits (n%1000000000)).length) 48)).size+(mkB (Go.Lib.decDigits (n%1000000000))).size<=9223372036854775807:=by
     rw[hsz,show(mkB (List.replicate (9 - (Go.Lib.decDigits (n%1000000000)).length) 48)).size=_ from c7h _,List.length_replicate];omega
    have happ:mkB (List.replicate (9 - (Go.Lib.decDigits (n%1000000000)).length) 48)++mkB (Go.Lib.decDigits (n%1000000000))=mkB (a6f 9 (n%1000000000)):=by
     rw[<-p1];exact c1w _ _
    have hc:(acc.length+ [mkB (a6f 9 (n%1000000000))].length)*16<=140737488355328:=by
     rw[List.length_singleton];omega
    have hi:=ih (n/1000000000) (by omega) (acc++[mkB (a6f 9 (n%1000000000))]) k (by omega) hsh (by simp;omega);rw[if_pos (decide_eq_true hsum),happ,if_pos (decide_eq_true hc),hi,b1z h1,List.map_cons,List.append_assoc];rfl
def S.b0v (x:((List Int)×Unit)):(Option (ByteArray×Unit)):=if a2o B32 x.1=true/\x.1.length<=40000000 then some (⟨(Go.Lib.decDigits (a0c B32 x.1)).toArray⟩,())else none
theorem S.d8u (x r) (h:S.b0v x=some r):∃k,P.c5r k x=some r:=by
 obtain⟨xs,u⟩:=x;unfold S.b0v at h;dsimp only at h;split at h
 case isFalse=>cases h
 rename_i hc;obtain⟨ca,la⟩:=hc;cases h;refine⟨a0c B32 xs+1,?_⟩;unfold P.c5r;dsimp only
 by_cases he:xs=[]
 ·subst he;rw[if_pos (by rfl),show a0c B32 []=0 from rfl,a7z (by decide)];rfl
 ·have hpos:0<xs.length:=List.length_pos_iff.2 he;have h0:a0c B32 xs≠0:=by
   intro q;have:=a1h ca;rw[q,a1v a0e]at this;exact he this.symm
  have hb:a0c B32 xs<B32^xs.length:=a1p (a1s ca);have hb2:a0c B32 xs<(10^10)^xs.length:=Nat.lt_of_lt_of_le hb (Nat.pow_le_pow_left (by decide) _);rw[<-Nat.pow_mul]at hb2;have hlen:(Go.Lib.decDigits (a0c B32 xs)).length<=10*xs.length:=dec_len (by omega) hb2;have hb3:a0c B32 xs<B10^(2*xs.length):=by
   refine Nat.lt_of_lt_of_le hb ?_;rw[Nat.pow_mul];exact Nat.pow_le_pow_left (by decide) _
  have hparts:(a3x (a0c B32 xs)).length<=2*xs.length:=by
   rw[e2g,a4j a0d];exact hb3
  rw[if_neg (by simp;exact he)];have key:=it_loop (a0c B32 xs) [] (a0c B32 xs+1) (by omega) (by rw[a1h ca];omega) (by simp;omega);rw[a1h ca,List.nil_append]at key;rw[key];have hall:=e2f h0;generalize a3x (a0c B32 xs)=ps at*;unfold S.a1b S.b2i;dsimp only;have hj:joinB (Go.Cm.splice (ps.map mkB) (ps.map mkB).reverse 0) (bs [])=Go.Lib.decDigits (a0c B32 xs):=by
   rw[b6w (by simp)];unfold joinB;rw[show(bs []).data.toList=[]from rfl,join_empty,<-List.map_reverse,List.map_map];rw[show(fun x:ByteArray=>x.data.toList) ∘ mkB=id by funext l;simp [mkB],List.map_id];exact hall
  rw[if_pos (by simp;omega),Option.bind_some];dsimp only;rw[hj,if_pos ⟨by rw[b6w (by simp)];simp;omega,by omega⟩,Option.bind_some]
def P.c5s (k:Nat) (x:RB×Unit):Option ((ByteArray×Bool)×Unit):=
 (S.b0v (x.1.2.1,())).bind fun y0=>(S.b0v (x.1.2.2,())).bind fun y1=>if x.1.1 then if decide ((1+y0.1.size)<=9223372036854775807)then if ! ((ByteArray.toList y1.1)==(ByteArray.toList (bs [49])))then if decide ((1+y1.1.size)<=9223372036854775807)then if decide (((ByteArray.size ((bs [45])++y0.1))+(ByteArray.size ((bs [47])++y1.1)))<=9223372036854775807)then if decide ((y0.1.size:Int)<=200)then some ((((bs [45])++y0.1)++((bs [47])++y1.1),decide ((y1.1.size:Int)<=200)),())else some ((((bs [45])++y0.1)++((bs [47])++y1.1),false),())else none else none else if decide ((y0.1.size:Int)<=200)then some (((bs [45])++y0.1,decide ((y1.1.size:Int)<=200)),())else some (((bs [45])++y0.1,false),())else none else if ! ((ByteArray.toList y1.1)==(ByteArray.toList (bs [49])))then if decide ((1+y1.1.size)<=9223372036854775807)then if decide ((y0.1.size+(ByteArray.size ((bs [47])++y1.1)))<=9223372036854775807)then if decide ((y0.1.size:Int)<=200)then some ((y0.1++((bs [47])++y1.1),decide ((y1.1.size:Int)<=200)),())else some ((y0.1++((bs [47])++y1.1),false),())else none else none else if decide ((y0.1.size:Int)<=200)then some ((y0.1,decide ((y1.1.size:Int)<=200)),())else some ((y0.1,false),())
def S.b0w (x:(RB×Unit)):(Option ((ByteArray×Bool)×Unit)):=if rok B32 40000000 x.1=true then some ((⟨(c9t (rv B32 x.1)).toArray⟩,fitN (rv B32 x.1)),())else none
theorem S.d8v (x r) (h:S.b0w x=some r):∃k,P.c5s k x=some r:=by
 obtain⟨⟨neg,as,bs'⟩,u⟩:=x;unfold S.b0w at h;dsimp only at h;split at h
 case isFalse=>cases h
 rename_i hc;rw[b8o]at hc;obtain⟨ca,cb,la,lb⟩:=hc;dsimp only at ca cb la lb;cases h;refine⟨0,?_⟩;unfold P.c5s;dsimp only;have e1:∀xs,a2o B32 xs=true->xs.length<=40000000->S.b0v (xs,())=some (⟨(Go.Lib.decDigits (a0c B32 xs)).toArray⟩,()):=by
  intro xs cx lx;unfold S.b0v;exact if_pos ⟨cx,lx⟩
 rw[e1 as ca la,Option.bind_some,e1 bs' cb lb,Option.bind_some];dsimp only;have l1:=c4t (show B32<=10^10 by decide) ca;have l2:=c4t (show B32<=10^10 by decide) cb;unfold rv c9t fitN;dsimp only;have hd1:=dec_one (a0c B32 bs');generalize Go.Lib.decDigits (a0c B32 as)=t1 at*;generalize Go.Lib.decDigits (a0c B32 bs')=t2 at*;rw[ByteArray.toList_eq,ByteArray.toList_eq,show bs [49]=⟨([49]:List UInt8).toArray⟩from rfl,show bs [45]=⟨([45]:List UInt8).toArray⟩from rfl,show bs [47]=⟨([47]:List UInt8).toArray⟩from rfl];rw[c1w,c1w,c1w,c1w,c7h,c7h,c7h,c7h];have c1:(1+t1.length<=9223372036854775807):=by omega
 have c2:(1+t2.length<=9223372036854775807):=by omega
 have c3:([45]++t1).length+([47]++t2).length<=9223372036854775807:=by simp;omega
 have c4:t1.length+([47]++t2).length<=9223372036854775807:=by simp;omega
 simp only[c1,c2,c3,c4,decide_true,if_true];have d1:∀t:List UInt8,decide (((t.length:Nat):Int)<=200)=decide (t.length<=200):=by
  intro t;rw[decide_eq_decide];omega
 rw[d1,d1];have d2:((!(t2== [49]))=true)↔¬a0c B32 bs'=1:=by
  rw[<-hd1];simp
 by_cases hq:a0c B32 bs'=1
 ·have n2:¬((!(t2== [49]))=true):=by rw[d2];exact fun q=>q hq
  cases neg<;>simp only[n2,hq,if_true,if_false,Bool.false_eq_true,List.append_nil,List.nil_append]<;>cases decide (t1.length<=200)<;>simp
 ·have n2:((!(t2== [49]))=true):=d2.2 hq;cases neg<;>simp only[n2,hq,if_true,if_false,Bool.false_eq_true,List.nil_append]<;>cases decide (t1.length<=200)<;>simp
abbrev i_toldList.A:=Option ((List ByteArray×Bool)×Unit)
abbrev P.b3d (x1:Int×Int×List RB×List ByteArray×Unit) (g2:Int×Int×List RB×List ByteArray×Unit->i_toldList.A):i_toldList.A:=
 if decide (x1.1<x1.2.1)then if decide (0<=x1.1)then if decide (x1.1<(x1.2.2.1.length:Int))then(S.b0w (((x1.2.2.1.getD x1.1.toNat (false,[],[])).1,(x1.2.2.1.getD x1.1.toNat (false,[],[])).2.1,(x1.2.2.1.getD x1.1.toNat (false,[],[])).2.2),())).bind fun y3=>if !y3.1.2 then some (([],false),())else if decide (((x1.2.2.2.1.length+(List.length [y3.1.1]))*16)<=140737488355328)then g2 (wrap .i64 (x1.1+1),x1.2.1,x1.2.2.1,x1.2.2.2.1++[y3.1.1],())else none else none else none else some ((x1.2.2.2.1,true),())
def P.c5t (k:Nat) (x:List RB×Unit):i_toldList.A:=
 loopP P.b3d k (0,(x.1.length:Int),x.1,[],())
def S.b0x (x:((List RB)×Unit)):(Option (((List ByteArray)×Bool)×Unit)):=if x.1.all (rok B32 40000000)=true/\x.1.length<=1000000 then some (c9u (x.1.map (rv B32)),())else none
theorem S.d8w (x r) (h:S.b0x x=some r):∃k,P.c5t k x=some r:=by
 obtain⟨xs,u⟩:=x;unfold S.b0x at h;dsimp only at h;split at h
 case isFalse=>cases h
 rename_i hc;cases h;obtain⟨qs,rfl⟩:∃qs:List Q3,xs=qs.map (rp B32):=⟨xs.map (rv B32),by
  rw[List.map_map];have:∀ys:List (Bool×(List Int×List Int)),ys.all (rok B32 40000000)=true->ys.map (rp B32 ∘ rv B32)=ys:=by
   intro ys
   induction ys with
   |nil=>intro _;rfl
   |cons y ys ih=>
    intro hy;rw[List.all_cons,Bool.and_eq_true]at hy;rw[List.map_cons,ih hy.2];show rp B32 (rv B32 y)::ys=_;rw[rp_rv hy.1]
  exact(this xs hc.1).symm⟩
 have hlen:=hc.2;rw[List.length_map]at hlen;refine⟨qs.length+1,?_⟩;unfold P.c5t c9u;dsimp only;have key:=a0f (k:=qs.length+1) (b:=P.b3d) (n:=qs.length) (st:=fun i=>((i:Int),(qs.length:Int),qs.map (rp B32),(qs.take i).map (fun r:Q3=>(⟨(c9t r).toArray⟩:ByteArray)),())) (F:=fun i=>some (if(qs.drop i).all fitN=true then(qs.map (fun r:Q3=>(⟨(c9t r).toArray⟩:ByteArray)),true)else([],false),())) (fun i g hi hg'=>by
  unfold P.b3d;dsimp only at hg' ⊢;have e1:(i:Int)<(qs.length:Int):=by omega
  have e2:(0:Int)<=(i:Int):=by omega
  have e3:(i:Int)<((qs.map (rp B32)).length:Int):=by rw[List.length_map];omega
  simp only[e1,e2,e3,decide_true,if_true];rw[a0o (qs.map (rp B32)) i _ (by rw[List.length_map];exact hi),List.getElem_map];have ht:S.b0w (rp B32 qs[i],())=some ((⟨(c9t qs[i]).toArray⟩,fitN qs[i]),()):=by
   unfold S.b0w;dsimp only;rw[if_pos (by have:=List.all_eq_true.1 hc.1 _ (List.mem_map.2 ⟨qs[i],List.getElem_mem hi,rfl⟩);exact this),a3q a0e]
  show Option.bind (S.b0w (rp B32 qs[i],())) _=_;rw[ht,Option.bind_some,List.drop_eq_getElem_cons hi,List.all_cons];dsimp only;cases hf:fitN qs[i]
  ·rw[if_pos (by decide),Bool.false_and,if_neg (by decide)]
  ·skip
   skip
   have e4:(((qs.take i).map (fun r:Q3=>(⟨(c9t r).toArray⟩:ByteArray))).length+1)*16<=140737488355328:=by
    rw[List.length_map,List.length_take];omega
   rw[if_neg (by simp),wr (by omega) (by omega),Bool.true_and,<-hg'];simp only[List.length_cons,List.length_nil,Nat.zero_add];rw[if_pos (decide_eq_true e4),List.take_add_one,List.getElem?_eq_getElem hi,Option.toList_some,List.map_append];rfl) (fun g=>by
  unfold P.b3d;dsimp only;rw[if_neg (by simp),List.take_length,List.drop_length];rfl) (by omega)
 rw[b8z a0e,List.length_map];refine key.trans ?_;rw[List.drop_zero]
 by_cases ha:qs.all fitN=true
 ·rw[if_pos ha,if_pos ha];congr 3;refine List.map_congr_left fun r hr=> ?_
  unfold d6w;rw[if_pos (List.all_eq_true.1 ha r hr)]
 ·rw[if_neg ha,if_neg ha]
def P.i_in (k:Nat) (x:Int×Int×Int×Unit):Option (Bool×Unit):=
 if decide (x.1>=x.2.1)then some (decide (x.1<=x.2.2.1),())else some (false,())
def S.i_in (x:(Int×(Int×(Int×Unit)))):(Option (Bool×Unit)):=P.i_in 0 x
theorem S.i_in_ok (x r) (h:S.i_in x=some r):∃k,P.i_in k x=some r:=⟨0,h⟩
def P.b9k (k:Nat) (x:List (List RB)×Int×Unit):Option (Bool×Unit):=
 (S.i_in (x.2.1,0,wrap .i64 ((x.1.length:Int) - 1),())).bind fun y0=>some (y0.1,())
def S.b4o (x:((List (List RB))×(Int×Unit))):(Option (Bool×Unit)):=P.b9k 0 x
theorem S.e3y (x r) (h:S.b4o x=some r):∃k,P.b9k k x=some r:=⟨0,h⟩
def P.c2c (k:Nat) (x:RB×Unit):Option (RB×Unit):=
 if !x.1.1 then some ((decide ((x.1.2.1.length:Int)>0),x.1.2.1,x.1.2.2),())else some ((false,x.1.2.1,x.1.2.2),())
def S.a3r (x:(RB×Unit)):(Option (RB×Unit)):=if rok B32 40000000 x.1=true then some (rp B32 (b6d (rv B32 x.1)),())else none
theorem S.d5b (x r) (h:S.a3r x=some r):∃k,P.c2c k x=some r:=by
 obtain⟨x,u⟩:=x;unfold S.a3r at h;dsimp only at h;split at h
 case isFalse=>cases h
 rename_i hc;cases h;refine⟨0,?_⟩;obtain⟨n,p,q,rfl,_,_⟩:=b0t hc;rw[b9b a0e];unfold P.c2c b6d rp;dsimp only;rw[d8e a0e];cases n
 ·rfl
 ·rfl
abbrev P.b5k (x1:Int×Int×List Int×Int×List Int×List Int×Unit) (g2:Int×Int×List Int×Int×List Int×List Int×Unit->Option (List Int×Unit)):Option (List Int×Unit):=
 (fun(a b d:Int) (c e f:List Int)=>if decide (a<b)then if decide (0<=a)then if decide (a<(c.length:Int))then if decide (a<(e.length:Int))then if decide (0<=a)then if decide (a<(e.length:Int))then if decide ((wrap .i64 ((wrap .i64 ((wrap .i64 (c.getD a.toNat 0)) - d)) - (wrap .i64 (e.getD a.toNat 0))))<0)then if decide (0<=a)then if decide (a<(f.length:Int))then g2 (wrap .i64 (a+1),b,c,1,e,f.set (0+a.toNat) (wrap .u32 (wrap .i64 ((wrap .i64 ((wrap .i64 (c.getD a.toNat 0)) - d)) - (wrap .i64 (e.getD a.toNat 0))))),())else none else none else if decide (0<=a)then if decide (a<(f.length:Int))then g2 (wrap .i64 (a+1),b,c,0,e,f.set (0+a.toNat) (wrap .u32 (wrap .i64 ((wrap .i64 ((wrap .i64 (c.getD a.toNat 0)) - d)) - (wrap .i64 (e.getD a.toNat 0))))),())else none else none else none else none else if decide ((wrap .i64 ((wrap .i64 (c.getD a.toNat 0)) - d))<0)then if decide (0<=a)then if decide (a<(f.length:Int))then g2 (wrap .i64 (a+1),b,c,1,e,f.set (0+a.toNat) (wrap .u32 (wrap .i64 ((wrap .i64 (c.getD a.toNat 0)) - d))),())else none else none else if decide (0<=a)then if decide (a<(f.length:Int))then g2 (wrap .i64 (a+1),b,c,0,e,f.set (0+a.toNat) (wrap .u32 (wrap .i64 ((wrap .i64 (c.getD a.toNat 0)) - d))),())else none else none else none else none else(S.a3p (f,())).bind fun y3=>some (y3.1,())) x1.1 x1.2.1 x1.2.2.2.1 x1.2.2.1 x1.2.2.2.2.1 x1.2.2.2.2.2.1
def P.d0x (k:Nat) (x:List Int×List Int×Unit):Option (List Int×Unit):=
 if decide (0<=(x.1.length:Int))then if decide ((x.1.length:Int)<=(x.1.length:Int))then if decide (((x.1.length:Int)*4)<=281474976710656)then loopP P.b5k k (0,(x.1.length:Int),x.1,0,x.2.1,List.replicate (Int.toNat (x.1.length:Int)) 0,())else none else none else none
def S.a9q (x:((List Int)×((List Int)×Unit))):(Option ((List Int)×Unit)):=if dig B32 x.1=true/\dig B32 x.2.1=true/\x.2.1.length<=x.1.length/\a0c B32 x.2.1<=a0c B32 x.1/\x.1.length<=10000000000 then some (nd B32 (a0c B32 x.1 - a0c B32 x.2.1),())else none
theorem S.e3z (x r) (h:S.a9q x=some r):∃k,P.d0x k x=some r:=by
 obtain⟨xs,ys,u⟩:=x;unfold S.a9q at h;dsimp only at h;split at h
 case isFalse=>cases h
 rename_i hc;obtain⟨dx,dy,hl,hv,lx⟩:=hc;cases h;refine⟨xs.length+1,?_⟩;unfold P.d0x;dsimp only;have a1:(0:Int)<=(xs.length:Int):=by omega
 have a2:(xs.length:Int)*4<=281474976710656:=by omega
 simp only[a1,a2,decide_true,if_true,Int.le_refl,Int.toNat_natCast];have key:=a0f (k:=xs.length+1) (b:=P.b5k) (n:=xs.length) (st:=fun i=>((i:Int),(xs.length:Int),xs,((a2f B32 1 xs ys i).2.2:Int),ys,(a2f B32 1 xs ys i).1++List.replicate (xs.length - i) 0,())) (F:=fun i=>some (nd B32 (a0c B32 xs - a0c B32 ys),())) (fun i g hi hg=>by
  unfold P.b5k;dsimp only at hg ⊢;refine Eq.trans ?_ hg;clear hg;obtain⟨q1,q2,q3,q4,q5⟩:=c0k (t:=1) a0e dx dy i;have gx:=a1e (B:=B32) (by decide) dx i;have gy:=a1e (B:=B32) (by decide) dy i;have gx1:xs.getD i 0<4294967296:=gx.2;have gy1:ys.getD i 0<4294967296:=gy.2;have gx0:=gx.1;have gy0:=gy.1;have hlen:((a2f B32 1 xs ys i).1++List.replicate (xs.length - i) (0:Int)).length=xs.length:=by rw[List.length_append,q2,List.length_replicate];omega
  have e1:(i:Int)<(xs.length:Int):=by omega
  have e2:(0:Int)<=(i:Int):=by omega
  rw[hlen];simp only[e1,e2,decide_true,if_true,Nat.zero_add,Int.toNat_natCast];have hrep:List.replicate (xs.length - i) (0:Int)=0::List.replicate (xs.length - (i+1)) 0:=by
   rw[show xs.length - i=(xs.length - (i+1))+1 by omega,List.replicate_succ]
  rw[hrep];simp only[b2v q2];rw[(d8d a0e (xs:=xs) dy i).2];dsimp only;have y0:¬((i:Int)<(ys.length:Int))->ys.getD i 0=0:=by
   intro hj;rw[List.getD_eq_getElem?_getD,List.getElem?_eq_none (by omega)];rfl
  generalize (a2f B32 1 xs ys i).1=pl at*;generalize (a2f B32 1 xs ys i).2.2=l0 at*;obtain⟨x,hx⟩:∃x,xs.getD i 0=x:=⟨_,rfl⟩
  obtain⟨y,hy⟩:∃y,ys.getD i 0=y:=⟨_,rfl⟩
  simp only[hx,hy]at gx1 gx0 gy1 gy0 y0 ⊢;have hB:((B32:Nat):Int)=4294967296:=rfl;rw[wr (x:=(i:Int)+1) (by omega) (by omega),wr (x:=x) (by omega) (by omega),wr (x:=x - (l0:Int)) (by omega) (by omega),hB]
  by_cases hj:(i:Int)<(ys.length:Int)
  ·rw[if_pos (decide_eq_true hj),if_pos (decide_eq_true hj),wr (x:=y) (by omega) (by omega),wr (x:=x - (l0:Int) - y) (by omega) (by omega),c4q,show x - (l0:Int) - y=x - y - (l0:Int) by omega]
   by_cases hn:x - y - (l0:Int)<0
   ·rw[if_pos (decide_eq_true hn),if_pos hn];rfl
   ·rw[if_neg (by simpa using hn),if_neg hn];rfl
  ·have hy0:=y0 hj;subst hy0;rw[if_neg (by simpa using hj),c4q,show x - 0 - (l0:Int)=x - (l0:Int) by omega]
   by_cases hn:x - (l0:Int)<0
   ·rw[if_pos (decide_eq_true hn),if_pos hn];rfl
   ·rw[if_neg (by simpa using hn),if_neg hn];rfl) (fun g=>by
  unfold P.b5k;dsimp only;rw[if_neg (by simp),Nat.sub_self,show List.replicate 0 (0:Int)=[]from rfl,List.append_nil,takeUp_fd a0e dx dy hl hv];unfold S.a3p;dsimp only;have hb:=a1p dx;rw[if_pos ⟨b5u (by decide) _ _,by rw[a2x];omega⟩,Option.bind_some,nd_fd a0e (by omega)]) (by omega)
 exact key
abbrev i_nat_add.A:=Int×Int×Int×List Int×List Int×List Int×Unit
abbrev i_nat_add.B:=Option (List Int×Unit)
abbrev P.a8v (x1:i_nat_add.A) (g2:i_nat_add.A->i_nat_add.B):i_nat_add.B:=
 (fun(a b c:Int) (d e f:List Int)=>if decide (a<b)then if decide (0<=a)then if decide (a<(d.length:Int))then if decide (a<(e.length:Int))then if decide (0<=a)then if decide (a<(e.length:Int))then if decide (0<=a)then if decide (a<(f.length:Int))then g2 (wrap .i64 (a+1),b,Int.fdiv (wrap .u64 ((wrap .u64 (c+(wrap .u64 (d.getD a.toNat 0))))+(wrap .u64 (e.getD a.toNat 0)))) 4294967296,d,e,f.set (0+a.toNat) (wrap .u32 (wrap .u64 ((wrap .u64 (c+(wrap .u64 (d.getD a.toNat 0))))+(wrap .u64 (e.getD a.toNat 0))))),())else none else none else none else none else if decide (0<=a)then if decide (a<(f.length:Int))then g2 (wrap .i64 (a+1),b,Int.fdiv (wrap .u64 (c+(wrap .u64 (d.getD a.toNat 0)))) 4294967296,d,e,f.set (0+a.toNat) (wrap .u32 (wrap .u64 (c+(wrap .u64 (d.getD a.toNat 0))))),())else none else none else none else none else if decide (0<=(d.length:Int))then if decide ((d.length:Int)<(f.length:Int))then(S.a3p (f.set (0+(Int.toNat (d.length:Int))) (wrap .u32 c),())).bind fun y3=>some (y3.1,())else none else none) x1.1 x1.2.1 x1.2.2.1 x1.2.2.2.1 x1.2.2.2.2.1 x1.2.2.2.2.2.1
abbrev P.c7x (x5:i_nat_add.A) (g6:i_nat_add.A->i_nat_add.B):i_nat_add.B:=
 (fun(a b c:Int) (d e f:List Int)=>if decide (a<b)then if decide (0<=a)then if decide (a<(d.length:Int))then if decide (a<(e.length:Int))then if decide (0<=a)then if decide (a<(e.length:Int))then if decide (0<=a)then if decide (a<(f.length:Int))then g6 (wrap .i64 (a+1),b,Int.fdiv (wrap .u64 ((wrap .u64 (c+(wrap .u64 (d.getD a.toNat 0))))+(wrap .u64 (e.getD a.toNat 0)))) 4294967296,d,e,f.set (0+a.toNat) (wrap .u32 (wrap .u64 ((wrap .u64 (c+(wrap .u64 (d.getD a.toNat 0))))+(wrap .u64 (e.getD a.toNat 0))))),())else none else none else none else none else if decide (0<=a)then if decide (a<(f.length:Int))then g6 (wrap .i64 (a+1),b,Int.fdiv (wrap .u64 (c+(wrap .u64 (d.getD a.toNat 0)))) 4294967296,d,e,f.set (0+a.toNat) (wrap .u32 (wrap .u64 (c+(wrap .u64 (d.getD a.toNat 0))))),())else none else none else none else none else if decide (0<=(d.length:Int))then if decide ((d.length:Int)<(f.length:Int))then(S.a3p (f.set (0+(Int.toNat (d.length:Int))) (wrap .u32 c),())).bind fun y7=>some (y7.1,())else none else none) x5.1 x5.2.1 x5.2.2.1 x5.2.2.2.1 x5.2.2.2.2.1 x5.2.2.2.2.2.1
def P.c3r (k:Nat) (x:List Int×List Int×Unit):i_nat_add.B:=
 if decide ((x.1.length:Int)<(x.2.1.length:Int))then if decide (0<=(wrap .i64 ((x.2.1.length:Int)+1)))then if decide ((wrap .i64 ((x.2.1.length:Int)+1))<=(wrap .i64 ((x.2.1.length:Int)+1)))then if decide (((wrap .i64 ((x.2.1.length:Int)+1))*4)<=281474976710656)then loopP P.a8v k (0,(x.2.1.length:Int),0,x.2.1,x.1,List.replicate (Int.toNat (wrap .i64 ((x.2.1.length:Int)+1))) 0,())else none else none else none else if decide (0<=(wrap .i64 ((x.1.length:Int)+1)))then if decide ((wrap .i64 ((x.1.length:Int)+1))<=(wrap .i64 ((x.1.length:Int)+1)))then if decide (((wrap .i64 ((x.1.length:Int)+1))*4)<=281474976710656)then loopP P.c7x k (0,(x.1.length:Int),0,x.1,x.2.1,List.replicate (Int.toNat (wrap .i64 ((x.1.length:Int)+1))) 0,())else none else none else none
theorem add_loop (b:(Int×(Int×(Int×((List Int)×((List Int)×((List Int)×Unit))))))->((Int×(Int×(Int×((List Int)×((List Int)×((List Int)×Unit))))))->Option ((List Int)×Unit))->Option ((List Int)×Unit)) (hb:b=P.a8v)
  (xs ys:List Int) (hx:dig B32 xs=true) (hy:dig B32 ys=true) (hl:ys.length<=xs.length) (hbig:xs.length<=100000000000):
  loopP b (xs.length+1) ((0:Int),((xs.length:Int),((0:Int),(xs,(ys,(List.replicate (xs.length+1) 0,()))))))=some (nd B32 (a0c B32 xs+a0c B32 ys),()):=by
 subst hb;have key:=a0f (k:=xs.length+1) (b:=P.a8v) (n:=xs.length) (st:=fun i=>((i:Int),(xs.length:Int),((a1j B32 xs ys i).2:Int),xs,ys,(a1j B32 xs ys i).1++List.replicate (xs.length+1 - i) 0,())) (F:=fun i=>some (nd B32 (a0c B32 xs+a0c B32 ys),())) (fun i g hi hg=>by
  unfold P.a8v;dsimp only at hg ⊢;obtain⟨q1,q2,q3,q4⟩:=b3o a0e hx hy i;have gx:=a1e (B:=B32) (by decide) hx i;have gy:=a1e (B:=B32) (by decide) hy i;have gx1:xs.getD i 0<4294967296:=gx.2;have gy1:ys.getD i 0<4294967296:=gy.2;have gx0:=gx.1;have gy0:=gy.1;have hlen:((a1j B32 xs ys i).1++List.replicate (xs.length+1 - i) (0:Int)).length=xs.length+1:=by rw[List.length_append,q2,List.length_replicate];omega
  have e1:(i:Int)<(xs.length:Int):=by omega
  have e2:(0:Int)<=(i:Int):=by omega
  have e3:(i:Int)<((xs.length+1:Nat):Int):=by omega
  have hset:∀v:Int,((a1j B32 xs ys i).1++List.replicate (xs.length+1 - i) (0:Int)).set i v=((a1j B32 xs ys i).1++[v])++List.replicate (xs.length+1 - (i+1)) 0:=by
   intro v;have z1:xs.length+1 - i=(xs.length+1 - (i+1))+1:=by omega
   rw[z1,List.replicate_succ,List.set_append_right _ _ (by omega),q2,Nat.sub_self,List.append_assoc];rfl
  rw[hlen];simp only[e1,e2,e3,decide_true,if_true,Nat.zero_add,Int.toNat_natCast,hset];have hnat:∀n:Nat,n=(a1j B32 xs ys i).2+(xs.getD i 0).toNat+(ys.getD i 0).toNat->(((n%B32:Nat):Int)=(n:Int)%4294967296/\((n/B32:Nat):Int)=(n:Int)/4294967296):=by
   intro n _;constructor
   ·show((n%4294967296:Nat):Int)=_;omega
   ·show((n/4294967296:Nat):Int)=_;omega
  obtain⟨n1,n2⟩:=hnat _ rfl;rw[a1j]at hg;dsimp only at hg;rw[n1,n2]at hg
  by_cases hj:(i:Int)<(ys.length:Int)
  ·rw[if_pos (decide_eq_true hj),if_pos (decide_eq_true hj)];rw[wu (x:=xs.getD i 0) (by omega) (by omega),wu (x:=ys.getD i 0) (by omega) (by omega),wu (x:=((a1j B32 xs ys i).2:Int)+xs.getD i 0) (by omega) (by omega),wu (x:=((a1j B32 xs ys i).2:Int)+xs.getD i 0+ys.getD i 0) (by omega) (by omega),c0j _ (by omega),Int.fdiv_eq_ediv_of_nonneg _ (by omega),wr (by omega) (by omega)];have e:(((a1j B32 xs ys i).2+(xs.getD i 0).toNat+(ys.getD i 0).toNat:Nat):Int)=((a1j B32 xs ys i).2:Int)+xs.getD i 0+ys.getD i 0:=by omega
   rw[e]at hg;exact hg
  ·rw[if_neg (by simpa using hj)];have y0:ys.getD i 0=0:=by rw[List.getD_eq_getElem?_getD,List.getElem?_eq_none (by omega)];rfl
   rw[wu (x:=xs.getD i 0) (by omega) (by omega),wu (x:=((a1j B32 xs ys i).2:Int)+xs.getD i 0) (by omega) (by omega),c0j _ (by omega),Int.fdiv_eq_ediv_of_nonneg _ (by omega),wr (by omega) (by omega)];have e:(((a1j B32 xs ys i).2+(xs.getD i 0).toNat+(ys.getD i 0).toNat:Nat):Int)=((a1j B32 xs ys i).2:Int)+xs.getD i 0:=by omega
   rw[e]at hg;exact hg) (fun g=>by
  unfold P.a8v;dsimp only;obtain⟨q1,q2,q3,q4⟩:=b3o a0e hx hy xs.length;have hlen:((a1j B32 xs ys xs.length).1++List.replicate (xs.length+1 - xs.length) (0:Int)).length=xs.length+1:=by rw[List.length_append,q2,List.length_replicate];omega
  have e2:(0:Int)<=(xs.length:Int):=by omega
  have e3:(xs.length:Int)<((xs.length+1:Nat):Int):=by omega
  rw[if_neg (by simp),hlen,if_pos (decide_eq_true e2),if_pos (decide_eq_true e3),Nat.zero_add,Int.toNat_natCast];have hset:∀v:Int,((a1j B32 xs ys xs.length).1++List.replicate (xs.length+1 - xs.length) (0:Int)).set xs.length v=(a1j B32 xs ys xs.length).1++[v]:=by
   intro v;have z1:xs.length+1 - xs.length=1:=by omega
   rw[z1,List.set_append_right _ _ (by omega),q2,Nat.sub_self];rfl
  rw[hset,w32 (by omega) (by omega)];have hd:dig B32 ((a1j B32 xs ys xs.length).1++[((a1j B32 xs ys xs.length).2:Int)])=true:=by
   rw[a1o,q1,Bool.true_and,a2h];refine⟨⟨by omega,?_⟩,rfl⟩;show _<(4294967296:Int)
   omega
  rw[trim_i _ hd (by simp [q2];omega),Option.bind_some];have ev:a0c B32 ((a1j B32 xs ys xs.length).1++[((a1j B32 xs ys xs.length).2:Int)])=a0c B32 xs+a0c B32 ys:=by
   rw[a1a,q2];have e:a0c B32 [((a1j B32 xs ys xs.length).2:Int)]=(a1j B32 xs ys xs.length).2:=by simp [a0c]
   rw[e,q3,List.take_length,List.take_of_length_le hl]
  rw[ev]) (by omega)
 exact key
def S.a9r (x:((List Int)×((List Int)×Unit))):(Option ((List Int)×Unit)):=if dig B32 x.1=true/\dig B32 x.2.1=true/\x.1.length<=10000000000/\x.2.1.length<=10000000000 then some (nd B32 (a0c B32 x.1+a0c B32 x.2.1),())else none
theorem S.e4a (x r) (h:S.a9r x=some r):∃k,P.c3r k x=some r:=by
 obtain⟨xs,ys,u⟩:=x;unfold S.a9r at h;dsimp only at h;split at h
 case isFalse=>cases h
 rename_i hc;obtain⟨dx,dy,lx,ly⟩:=hc;cases h
 by_cases hlt:xs.length<ys.length
 ·refine⟨ys.length+1,?_⟩;unfold P.c3r;dsimp only;have a1:(0:Int)<=(ys.length:Int)+1:=by omega
  have a3:((ys.length:Int)+1)*4<=281474976710656:=by omega
  rw[if_pos (decide_eq_true (by omega)),wr (by omega) (by omega),if_pos (decide_eq_true a1),if_pos (decide_eq_true (Int.le_refl _)),if_pos (decide_eq_true a3)];rw[show((ys.length:Int)+1).toNat=ys.length+1 by omega,add_loop P.a8v rfl ys xs dy dx (by omega) (by omega),Nat.add_comm]
 ·refine⟨xs.length+1,?_⟩;unfold P.c3r;dsimp only;have a1:(0:Int)<=(xs.length:Int)+1:=by omega
  have a3:((xs.length:Int)+1)*4<=281474976710656:=by omega
  rw[if_neg (by simp;omega),wr (by omega) (by omega),if_pos (decide_eq_true a1),if_pos (decide_eq_true (Int.le_refl _)),if_pos (decide_eq_true a3)];rw[show((xs.length:Int)+1).toNat=xs.length+1 by omega];exact add_loop P.c7x rfl xs ys dx dy (by omega) (by omega)
def S.a3a (x:(Int×Unit)):(Option (Int×Unit)):=if 0<=x.1/\x.1<=4294967295 then some (32 - (Go.Lib.bitLen x.1.toNat:Int),())else none
abbrev P.a8c (x1:Int×Int×List Int×Int×List Int×Unit) (g2:Int×Int×List Int×Int×List Int×Unit->Option (List Int×Unit)):Option (List Int×Unit):=
 (fun(a b d:Int) (c e:List Int)=>if decide (a<b)then if decide (0<=a)then if decide (a<(c.length:Int))then if decide (d<0)then none else if decide (0<=a)then if decide (a<(e.length:Int))then if decide (0<=a)then if decide (a<(e.length:Int))then if decide (0<=(wrap .i64 (a+1)))then if decide ((wrap .i64 (a+1))<(List.length (e.set (0+a.toNat) (wrap .u32 ((BitVec.toNat ((BitVec.ofInt 32 (e.getD (0+a.toNat) 0))|||(BitVec.ofInt 32 (wrap .u32 (wrap .u64 ((wrap .u64 (c.getD a.toNat 0))*((2:Int)^(Min.min d.toNat 64))))))):Nat):Int))):Int))then g2 (wrap .i64 (a+1),b,c,d,List.set (e.set (0+a.toNat) (wrap .u32 ((BitVec.toNat ((BitVec.ofInt 32 (e.getD (0+a.toNat) 0))|||(BitVec.ofInt 32 (wrap .u32 (wrap .u64 ((wrap .u64 (c.getD a.toNat 0))*((2:Int)^(Min.min d.toNat 64))))))):Nat):Int))) (0+(Int.toNat (wrap .i64 (a+1)))) (wrap .u32 (Int.fdiv (wrap .u64 ((wrap .u64 (c.getD a.toNat 0))*((2:Int)^(Min.min d.toNat 64)))) 4294967296)),())else none else none else none else none else none else none else none else none else some (e,())) x1.1 x1.2.1 x1.2.2.2.1 x1.2.2.1 x1.2.2.2.2.1
def P.b7l (k:Nat) (x:List Int×Int×Unit):Option (List Int×Unit):=
 if decide (0<=(wrap .i64 ((x.1.length:Int)+1)))then if decide ((wrap .i64 ((x.1.length:Int)+1))<=(wrap .i64 ((x.1.length:Int)+1)))then if decide (((wrap .i64 ((x.1.length:Int)+1))*4)<=281474976710656)then loopP P.a8c k (0,(x.1.length:Int),x.1,x.2.1,List.replicate (Int.toNat (wrap .i64 ((x.1.length:Int)+1))) 0,())else none else none else none
def S.a3j (x:((List Int)×(Int×Unit))):(Option ((List Int)×Unit)):=if dig B32 x.1=true/\0<=x.2.1/\x.2.1<=31/\x.1.length<=10000000000 then some (fd B32 (x.1.length+1) (a0c B32 x.1*2^x.2.1.toNat),())else none
theorem S.c8r (x r) (h:S.a3j x=some r):∃k,P.b7l k x=some r:=by
 obtain⟨xs,by',u⟩:=x;unfold S.a3j at h;dsimp only at h;split at h
 case isFalse=>cases h
 rename_i hc;obtain⟨hd,hb0,hb1,hl⟩:=hc;cases h;obtain⟨s,rfl⟩:∃d:Nat,by'=(d:Int):=⟨by'.toNat,by omega⟩
 rw[Int.toNat_natCast];have hs:s<=31:=by omega
 have hpow:0<2^s:=Nat.pow_pos (by decide);have hpow32:2^s<=2147483648:=Nat.le_trans (Nat.pow_le_pow_right (by decide) hs) (by decide);refine⟨xs.length+1,?_⟩;unfold P.b7l;dsimp only;rw[wr (by omega) (by omega)];have a1:(0:Int)<=(xs.length:Int)+1:=by omega
 have a3:((xs.length:Int)+1)*4<=281474976710656:=by omega
 rw[if_pos (decide_eq_true a1),if_pos (decide_eq_true (Int.le_refl _)),if_pos (decide_eq_true a3)];have e0:List.replicate ((xs.length:Int)+1).toNat (0:Int)=(b1k B32 (2^s) xs 0).1++(((b1k B32 (2^s) xs 0).2:Int)::List.replicate (xs.length - 0) 0):=by
  rw[show((xs.length:Int)+1).toNat=xs.length+1 by omega,List.replicate_succ];rfl
 rw[e0];have key:=a0f (k:=xs.length+1) (b:=P.a8c) (n:=xs.length) (st:=fun i=>((i:Int),(xs.length:Int),xs,(s:Int),(b1k B32 (2^s) xs i).1++(((b1k B32 (2^s) xs i).2:Int)::List.replicate (xs.length - i) 0),())) (F:=fun i=>some (fd B32 (xs.length+1) (a0c B32 xs*2^s),())) (fun i g hi hg=>by
  unfold P.a8c;dsimp only at hg ⊢;obtain⟨q1,q2,q3,q4⟩:=d0d (d:=2^s) a0e hd i (by omega);have hlen:((b1k B32 (2^s) xs i).1++(((b1k B32 (2^s) xs i).2:Int)::List.replicate (xs.length - i) 0)).length=xs.length+1:=by rw[List.length_append,q2,List.length_cons,List.length_replicate];omega
  have e1:(i:Int)<(xs.length:Int):=by omega
  have e2:(0:Int)<=(i:Int):=by omega
  have e3:(i:Int)<((xs.length+1:Nat):Int):=by omega
  have e4:¬((s:Int)<0):=by omega
  rw[hlen];simp only[e1,e2,e3,e4,decide_true,decide_false,if_true,Nat.zero_add,Int.toNat_natCast,List.length_set,hlen,Bool.false_eq_true,if_false];rw[wr (x:=(i:Int)+1) (by omega) (by omega)];have e5:(0:Int)<=(i:Int)+1:=by omega
  have e6:(i:Int)+1<((xs.length+1:Nat):Int):=by omega
  simp only[e5,e6,decide_true,if_true];have hgD:xs.getD i 0=xs[i]:=by simp [hi]
  have hx:=b6c hd hi;have hx1:xs[i]<4294967296:=hx.2;have hx0:=hx.1;rw[b1k,hgD]at hg;rw[hgD];have hcar:(b1k B32 (2^s) xs i).2<2^s:=by
   have h1:a0c B32 (xs.take i)<B32^i:=by
    have h0:dig B32 (xs.take i)=true:=by
     have:=List.take_append_drop i xs;rw[<-this,a1o,Bool.and_eq_true]at hd;exact hd.1
    have:=a1p h0;rwa [show(xs.take i).length=i by simp;omega]at this
   have h2:a0c B32 (xs.take i)*2^s<B32^i*2^s:=Nat.mul_lt_mul_of_pos_right h1 hpow;exact Nat.lt_of_mul_lt_mul_left (a:=B32^i) (by omega)
  generalize hP:b1k B32 (2^s) xs i=p at*;obtain⟨z,hz⟩:∃z:Nat,xs[i]=(z:Int):=⟨xs[i].toNat,(Int.toNat_of_nonneg hx0).symm⟩
  rw[hz]at hx1 hg ⊢;rw[Int.toNat_natCast]at hg;have hz32:z<2^32:=by omega
  have hzp:z*2^s<18446744073709551616:=Nat.lt_of_lt_of_le (Nat.mul_lt_mul_of_pos_right hz32 hpow) (by have:=Nat.mul_le_mul_left (2^32) hpow32;omega);have emin:Min.min s 64=s:=by omega
  have ep:((2:Int)^s)=((2^s:Nat):Int):=by rw[Int.natCast_pow];rfl
  have em:(z:Int)*((2^s:Nat):Int)=((z*2^s:Nat):Int):=(Int.natCast_mul _ _).symm;rw[wu (x:=(z:Int)) (by omega) (by omega),emin,ep,em,wu (x:=((z*2^s:Nat):Int)) (by omega) (by omega)];have g1:(p.1++((p.2:Int)::List.replicate (xs.length - i) 0)).getD i 0=(p.2:Int):=by
   rw[List.getD_eq_getElem?_getD,List.getElem?_append_right (by omega),q2,Nat.sub_self];rfl
  rw[g1,c0j ((z*2^s:Nat):Int) (by omega)];have e7:((z*2^s:Nat):Int)%4294967296=((z*2^s%2^32:Nat):Int):=by
   show _=((z*2^s%4294967296:Nat):Int)
   omega
  have hlow:=shl_low z s (by omega);have hor:p.2|||(z*2^s%2^32)=p.2+z*2^s%2^32:=by rw[hlow,or_apart _ _ _ hcar]
  have hmlt:z*2^s%2^32<2^32:=Nat.mod_lt _ (by decide);have hsum:p.2+z*2^s%2^32<2^32:=by
   have h1:z%2^(32 - s)+1<=2^(32 - s):=Nat.mod_lt _ (Nat.pow_pos (by decide));have h2:2^s*(z%2^(32 - s)+1)<=2^s*2^(32 - s):=Nat.mul_le_mul_left _ h1;rw[<-Nat.pow_add,show s+(32 - s)=32 by omega,Nat.mul_add]at h2;omega
  rw[e7,bv_or _ _ (by omega) hmlt,hor,w32 (by omega) (by omega),Int.fdiv_eq_ediv_of_nonneg _ (by omega)];have hq:z*2^s/4294967296<4294967296:=(Nat.div_lt_iff_lt_mul (by decide)).2 (by omega);have e8:((z*2^s:Nat):Int)/4294967296=((z*2^s/4294967296:Nat):Int):=by omega
  rw[e8,w32 (by omega) (by omega)];have e9:(z*2^s+p.2)%B32=p.2+z*2^s%2^32:=by
   show(z*2^s+p.2)%4294967296=p.2+z*2^s%4294967296;omega
  have e10:(z*2^s+p.2)/B32=z*2^s/4294967296:=by
   show(z*2^s+p.2)/4294967296=_;omega
  rw[e9,e10]at hg;have z1:xs.length - i=(xs.length - (i+1))+1:=by omega
  rw[z1,List.replicate_succ,List.set_append_right _ _ (by omega),q2,Nat.sub_self,List.set_cons_zero,List.set_append_right _ _ (by omega),q2,show((i:Int)+1).toNat - i=1 by omega,List.set_cons_succ,List.set_cons_zero];rw[List.append_assoc]at hg;exact hg) (fun g=>by
  unfold P.a8c;dsimp only;obtain⟨q1,q2,q3,q4⟩:=d0d (d:=2^s) a0e hd xs.length (Nat.le_refl _);rw[List.take_length]at q3;have hcar:(b1k B32 (2^s) xs xs.length).2<2^s:=by
   have h2:a0c B32 xs*2^s<B32^xs.length*2^s:=Nat.mul_lt_mul_of_pos_right (a1p hd) hpow;exact Nat.lt_of_mul_lt_mul_left (a:=B32^xs.length) (by omega)
  rw[if_neg (by simp),Nat.sub_self];generalize b1k B32 (2^s) xs xs.length=p at*;have hdd:dig B32 (p.1++[(p.2:Int)])=true:=by
   rw[a1o,q1,Bool.true_and,a2h];refine⟨⟨Int.natCast_nonneg _,?_⟩,rfl⟩;show(p.2:Int)<4294967296;omega
  have:=c7g (B:=B32) (by decide) hdd;rw[a1a,q2,show a0c B32 [(p.2:Int)]=p.2 by simp [a0c],q3,List.length_append,q2]at this;show some (p.1++[(p.2:Int)],())=_;rw[<-this];rfl) (by omega)
 exact key
abbrev i_takeAway.A:=Option (Bool×List Int×Unit)
abbrev P.a5m (x4:Int×Int×Int×List Int×List Int×Unit) (g5:Int×Int×Int×List Int×List Int×Unit->i_takeAway.A):i_takeAway.A:=
 (fun(a b c:Int) (d e:List Int)=>if decide (a<b)then if decide (0<=a)then if decide (a<(d.length:Int))then if decide (a<(e.length:Int))then if decide (0<=a)then if decide (a<(e.length:Int))then if decide (0<=a)then if decide (a<(d.length:Int))then g5 (wrap .i64 (a+1),b,Int.fdiv (wrap .u64 ((wrap .u64 (c+(wrap .u64 (d.getD (0+a.toNat) 0))))+(wrap .u64 (e.getD a.toNat 0)))) 4294967296,d.set (0+a.toNat) (wrap .u32 (wrap .u64 ((wrap .u64 (c+(wrap .u64 (d.getD (0+a.toNat) 0))))+(wrap .u64 (e.getD a.toNat 0))))),e,())else none else none else none else none else if decide (0<=a)then if decide (a<(d.length:Int))then g5 (wrap .i64 (a+1),b,Int.fdiv (wrap .u64 (c+(wrap .u64 (d.getD (0+a.toNat) 0)))) 4294967296,d.set (0+a.toNat) (wrap .u32 (wrap .u64 (c+(wrap .u64 (d.getD (0+a.toNat) 0))))),e,())else none else none else none else none else some (true,d,())) x4.1 x4.2.1 x4.2.2.1 x4.2.2.2.1 x4.2.2.2.2.1
abbrev P.b3e (k:Nat) (x1:Int×Int×List Int×Int×Int×List Int×Int×Unit) (g2:Int×Int×List Int×Int×Int×List Int×Int×Unit->i_takeAway.A):i_takeAway.A:=
 (fun(a b d e h:Int) (c f:List Int)=>if decide (a<b)then if decide (a<(c.length:Int))then if decide (0<=a)then if decide (a<(c.length:Int))then if decide (0<=a)then if decide (a<(f.length:Int))then if decide ((wrap .i64 ((wrap .i64 ((wrap .i64 (f.getD (0+a.toNat) 0)) - (wrap .i64 (wrap .u32 (wrap .u64 (d+(wrap .u64 (e*(wrap .u64 (c.getD a.toNat 0)))))))))) - h))<0)then if decide (0<=a)then if decide (a<(f.length:Int))then g2 (wrap .i64 (a+1),b,c,Int.fdiv (wrap .u64 (d+(wrap .u64 (e*(wrap .u64 (c.getD a.toNat 0)))))) 4294967296,e,f.set (0+a.toNat) (wrap .u32 (wrap .i64 ((wrap .i64 ((wrap .i64 (f.getD (0+a.toNat) 0)) - (wrap .i64 (wrap .u32 (wrap .u64 (d+(wrap .u64 (e*(wrap .u64 (c.getD a.toNat 0)))))))))) - h))),1,())else none else none else if decide (0<=a)then if decide (a<(f.length:Int))then g2 (wrap .i64 (a+1),b,c,Int.fdiv (wrap .u64 (d+(wrap .u64 (e*(wrap .u64 (c.getD a.toNat 0)))))) 4294967296,e,f.set (0+a.toNat) (wrap .u32 (wrap .i64 ((wrap .i64 ((wrap .i64 (f.getD (0+a.toNat) 0)) - (wrap .i64 (wrap .u32 (wrap .u64 (d+(wrap .u64 (e*(wrap .u64 (c.getD a.toNat 0)))))))))) - h))),0,())else none else none else none else none else none else none else if decide (0<=a)then if decide (a<(f.length:Int))then if decide ((wrap .i64 ((wrap .i64 ((wrap .i64 (f.getD (0+a.toNat) 0)) - (wrap .i64 (wrap .u32 d)))) - h))<0)then if decide (0<=a)then if decide (a<(f.length:Int))then g2 (wrap .i64 (a+1),b,c,Int.fdiv d 4294967296,e,f.set (0+a.toNat) (wrap .u32 (wrap .i64 ((wrap .i64 ((wrap .i64 (f.getD (0+a.toNat) 0)) - (wrap .i64 (wrap .u32 d)))) - h))),1,())else none else none else if decide (0<=a)then if decide (a<(f.length:Int))then g2 (wrap .i64 (a+1),b,c,Int.fdiv d 4294967296,e,f.set (0+a.toNat) (wrap .u32 (wrap .i64 ((wrap .i64 ((wrap .i64 (f.getD (0+a.toNat) 0)) - (wrap .i64 (wrap .u32 d)))) - h))),0,())else none else none else none else none else if h==0 then if d==0 then some (false,f,())else loopP P.a5m k (0,(f.length:Int),0,f,c,())else loopP P.a5m k (0,(f.length:Int),0,f,c,())) x1.1 x1.2.1 x1.2.2.2.1 x1.2.2.2.2.1 x1.2.2.2.2.2.2.1 x1.2.2.1 x1.2.2.2.2.2.1
def P.c5u (k:Nat) (x:List Int×List Int×Int×Unit):i_takeAway.A:=
 loopP (P.b3e k) k (0,(x.1.length:Int),x.2.1,0,x.2.2.1,x.1,0,())
theorem takeBack (b:(Int×(Int×(Int×((List Int)×((List Int)×Unit)))))->((Int×(Int×(Int×((List Int)×((List Int)×Unit)))))->Option (Bool×((List Int)×Unit)))->Option (Bool×((List Int)×Unit))) (hb:b=P.a5m)
  (xs ys:List Int) (hx:dig B32 xs=true) (hy:dig B32 ys=true) (hl:ys.length<=xs.length) (hbig:xs.length<=100000000000):
  loopP b (xs.length+1) ((0:Int),((xs.length:Int),((0:Int),(xs,(ys,())))))=some (true,fd B32 xs.length (a0c B32 xs+a0c B32 ys),()):=by
 subst hb;have key:=a0f (k:=xs.length+1) (b:=P.a5m) (n:=xs.length) (st:=fun i=>((i:Int),(xs.length:Int),((a1j B32 xs ys i).2:Int),(a1j B32 xs ys i).1++xs.drop i,ys,())) (F:=fun i=>some (true,fd B32 xs.length (a0c B32 xs+a0c B32 ys),())) (fun i g hi hg=>by
  unfold P.a5m;dsimp only at hg ⊢;obtain⟨q1,q2,q3,q4⟩:=b3o a0e hx hy i;have gx:=a1e (B:=B32) (by decide) hx i;have gy:=a1e (B:=B32) (by decide) hy i;have gx1:xs.getD i 0<4294967296:=gx.2;have gy1:ys.getD i 0<4294967296:=gy.2;have gx0:=gx.1;have gy0:=gy.1;have hlen:((a1j B32 xs ys i).1++xs.drop i).length=xs.length:=by rw[List.length_append,q2,List.length_drop];omega
  have e1:(i:Int)<(xs.length:Int):=by omega
  have e2:(0:Int)<=(i:Int):=by omega
  rw[hlen];simp only[e1,e2,decide_true,if_true,Nat.zero_add,Int.toNat_natCast];rw[a2t hi,b1l q2];simp only[b2v q2];have hnat:∀n:Nat,n=(a1j B32 xs ys i).2+(xs.getD i 0).toNat+(ys.getD i 0).toNat->(((n%B32:Nat):Int)=(n:Int)%4294967296/\((n/B32:Nat):Int)=(n:Int)/4294967296):=by
   intro n _;constructor
   ·show((n%4294967296:Nat):Int)=_;omega
   ·show((n/4294967296:Nat):Int)=_;omega
  obtain⟨n1,n2⟩:=hnat _ rfl;rw[a1j]at hg;dsimp only at hg;rw[n1,n2]at hg
  by_cases hj:(i:Int)<(ys.length:Int)
  ·rw[if_pos (decide_eq_true hj),if_pos (decide_eq_true hj)];rw[wu (x:=xs.getD i 0) (by omega) (by omega),wu (x:=ys.getD i 0) (by omega) (by omega),wu (x:=((a1j B32 xs ys i).2:Int)+xs.getD i 0) (by omega) (by omega),wu (x:=((a1j B32 xs ys i).2:Int)+xs.getD i 0+ys.getD i 0) (by omega) (by omega),c0j _ (by omega),Int.fdiv_eq_ediv_of_nonneg _ (by omega),wr (by omega) (by omega)];have e:(((a1j B32 xs ys i).2+(xs.getD i 0).toNat+(ys.getD i 0).toNat:Nat):Int)=((a1j B32 xs ys i).2:Int)+xs.getD i 0+ys.getD i 0:=by omega
   rw[e]at hg;exact hg
  ·rw[if_neg (by simpa using hj)];have y0:ys.getD i 0=0:=by rw[List.getD_eq_getElem?_getD,List.getElem?_eq_none (by omega)];rfl
   rw[wu (x:=xs.getD i 0) (by omega) (by omega),wu (x:=((a1j B32 xs ys i).2:Int)+xs.getD i 0) (by omega) (by omega),c0j _ (by omega),Int.fdiv_eq_ediv_of_nonneg _ (by omega),wr (by omega) (by omega)];have e:(((a1j B32 xs ys i).2+(xs.getD i 0).toNat+(ys.getD i 0).toNat:Nat):Int)=((a1j B32 xs ys i).2:Int)+xs.getD i 0:=by omega
   rw[e]at hg;exact hg) (fun g=>by
  unfold P.a5m;dsimp only;rw[if_neg (by simp),List.drop_length,List.append_nil,addUp_fd a0e hx hy hl]) (by omega)
 have e0:(a1j B32 xs ys 0).1++xs.drop 0=xs:=rfl;rw[e0]at key;exact key
def S.a8w (x:((List Int)×((List Int)×(Int×Unit)))):(Option (Bool×((List Int)×Unit))):=
 if dig B32 x.1=true/\dig B32 x.2.1=true/\0<=x.2.2.1/\x.2.2.1<4294967296/\x.2.1.length<=x.1.length/\x.1.length<=10000000000/\a0c B32 x.2.1*x.2.2.1.toNat<=a0c B32 x.1+a0c B32 x.2.1 then
  (if a0c B32 x.2.1*x.2.2.1.toNat<=a0c B32 x.1 then some (false,fd B32 x.1.length (a0c B32 x.1 - a0c B32 x.2.1*x.2.2.1.toNat),())
   else some (true,fd B32 x.1.length (a0c B32 x.1+a0c B32 x.2.1 - a0c B32 x.2.1*x.2.2.1.toNat),()))else none
theorem S.d8x (x r) (h:S.a8w x=some r):∃k,P.c5u k x=some r:=by
 obtain⟨xs,ys,t',u⟩:=x;unfold S.a8w at h;dsimp only at h;split at h
 case isFalse=>cases h
 rename_i hc;obtain⟨hx,hy,ht0,ht1,hl,hbig,hfit⟩:=hc;obtain⟨t,rfl⟩:∃d:Nat,t'=(d:Int):=⟨t'.toNat,by omega⟩
 rw[Int.toNat_natCast]at h hfit;have ht:t<=4294967295:=by omega
 refine⟨xs.length+1,?_⟩;rw[<-h];unfold P.c5u;dsimp only;have key:=a0f (k:=xs.length+1) (b:=P.b3e (xs.length+1)) (n:=xs.length) (st:=fun i=>((i:Int),(xs.length:Int),ys,((a2f B32 t xs ys i).2.1:Int),(t:Int),(a2f B32 t xs ys i).1++xs.drop i,((a2f B32 t xs ys i).2.2:Int),())) (F:=fun i=>(if a0c B32 ys*t<=a0c B32 xs then some (false,fd B32 xs.length (a0c B32 xs - a0c B32 ys*t),())
   else some (true,fd B32 xs.length (a0c B32 xs+a0c B32 ys - a0c B32 ys*t),()))) (fun i g hi hg=>by
  unfold P.b3e;dsimp only at hg ⊢;obtain⟨q1,q2,q3,q4,q5⟩:=c0k (t:=t) a0e hx hy i;have gx:=a1e (B:=B32) (by decide) hx i;have gy:=a1e (B:=B32) (by decide) hy i;have gx1:xs.getD i 0<4294967296:=gx.2;have gy1:ys.getD i 0<4294967296:=gy.2;have gx0:=gx.1;have gy0:=gy.1;have hlen:((a2f B32 t xs ys i).1++xs.drop i).length=xs.length:=by rw[List.length_append,q2,List.length_drop];omega
  have e1:(i:Int)<(xs.length:Int):=by omega
  have e2:(0:Int)<=(i:Int):=by omega
  rw[hlen];simp only[e1,e2,decide_true,if_true,Nat.zero_add,Int.toNat_natCast];rw[a2t hi,b1l q2];simp only[b2v q2];rw[a2f]at hg;dsimp only at hg;have y0:¬((i:Int)<(ys.length:Int))->ys.getD i 0=0:=by
   intro hj;rw[List.getD_eq_getElem?_getD,List.getElem?_eq_none (by omega)];rfl
  generalize xs.getD i 0=x at*;generalize ys.getD i 0=y at*;generalize a2f B32 t xs ys i=p at*;obtain⟨pl,c0,l0⟩:=p;dsimp only at*;obtain⟨Y,rfl⟩:∃Y:Nat,y=(Y:Int):=⟨y.toNat,by omega⟩
  rw[Int.toNat_natCast]at hg;have htY:t*Y<=4294967295*4294967295:=Nat.mul_le_mul ht (by omega);have em:(t:Int)*(Y:Int)=((t*Y:Nat):Int):=(Int.natCast_mul _ _).symm;have fin:∀c:Nat,c=c0+t*Y->(let n:=IntKind.wrap .i64 (IntKind.wrap .i64 (IntKind.wrap .i64 x - IntKind.wrap .i64 (IntKind.wrap .u32 (c:Int))) - (l0:Int))
    (if decide (n<0)=true then g (IntKind.wrap .i64 ((i:Int)+1),(xs.length:Int),ys,Int.fdiv (c:Int) 4294967296,(t:Int),(pl++[IntKind.wrap .u32 n])++xs.drop (i+1),1,())
     else g (IntKind.wrap .i64 ((i:Int)+1),(xs.length:Int),ys,Int.fdiv (c:Int) 4294967296,(t:Int),(pl++[IntKind.wrap .u32 n])++xs.drop (i+1),0,()))=(if a0c B32 ys*t<=a0c B32 xs then some (false,fd B32 xs.length (a0c B32 xs - a0c B32 ys*t),())
   else some (true,fd B32 xs.length (a0c B32 xs+a0c B32 ys - a0c B32 ys*t),()))):=by
   intro c hcc;rw[<-hcc]at hg;have e8:(c:Int)%4294967296=((c%B32:Nat):Int):=by
    show _=((c%4294967296:Nat):Int)
    omega
   have e9:Int.fdiv (c:Int) 4294967296=((c/B32:Nat):Int):=by
    rw[Int.fdiv_eq_ediv_of_nonneg _ (by omega)];show _=((c/4294967296:Nat):Int)
    omega
   have e10:c%B32<4294967296:=Nat.mod_lt _ (by decide);rw[c0j (c:Int) (by omega),e8,e9,wr (x:=(i:Int)+1) (by omega) (by omega),wr (x:=x) (by omega) (by omega),wr (x:=((c%B32:Nat):Int)) (by omega) (by omega),wr (x:=x - ((c%B32:Nat):Int)) (by omega) (by omega),wr (x:=x - ((c%B32:Nat):Int) - (l0:Int)) (by omega) (by omega)];dsimp only;rw[c4q]
   by_cases hn:x - ((c%B32:Nat):Int) - (l0:Int)<0
   ·rw[if_pos hn]at hg;rw[if_pos (decide_eq_true hn)];exact hg
   ·rw[if_neg hn]at hg;rw[if_neg (by simpa using hn)];exact hg
  by_cases hj:(i:Int)<(ys.length:Int)
  ·simp only[hj,decide_true,if_true];rw[wu (x:=(Y:Int)) (by omega) (by omega),em,wu (x:=((t*Y:Nat):Int)) (by omega) (by omega),<-Int.natCast_add,wu (x:=((c0+t*Y:Nat):Int)) (by omega) (by omega)];exact fin _ rfl
  ·rw[if_neg (by simpa using hj)];have hY:Y=0:=by have:=y0 hj;omega
   subst hY;exact fin c0 rfl) (fun g=>by
  unfold P.b3e;dsimp only;obtain⟨q1,q2,q3,q4,q5⟩:=c0k (t:=t) a0e hx hy xs.length;rw[List.take_length,List.take_of_length_le hl]at q3;rw[if_neg (by simp),List.drop_length,List.append_nil];generalize a2f B32 t xs ys xs.length=p at*;obtain⟨pl,c0,l0⟩:=p;dsimp only at*;have hlt:=a1p q1;rw[q2]at hlt;have hback:∀b,b=P.a5m->0<c0+l0->loopP b (xs.length+1) ((0:Int),((pl.length:Int),((0:Int),(pl,(ys,())))))=(if a0c B32 ys*t<=a0c B32 xs then some (false,fd B32 xs.length (a0c B32 xs - a0c B32 ys*t),())
   else some (true,fd B32 xs.length (a0c B32 xs+a0c B32 ys - a0c B32 ys*t),())):=by
   intro b hb hpos;have hge:B32^xs.length*1<=B32^xs.length*(c0+l0):=Nat.mul_le_mul_left _ hpos;rw[if_neg (by omega)];have:=takeBack b hb pl ys q1 hy (by omega) (by omega);rw[q2]at this;rw[q2,this];congr 2;have e1:a0c B32 pl+a0c B32 ys=(a0c B32 xs+a0c B32 ys - a0c B32 ys*t)+B32^xs.length*(c0+l0):=by omega
   rw[e1,<-c1v B32 xs.length (_+_),Nat.add_mul_mod_self_left,c1v]
  by_cases hl0:l0=0
  ·subst hl0;rw[if_pos (by rfl)]
   by_cases hc0:c0=0
   ·subst hc0;rw[if_pos (by rfl),if_pos (by omega)];congr 2;have:pl=fd B32 xs.length (a0c B32 xs - a0c B32 ys*t):=fd_eq a0e q1 q2 (by omega);rw[this]
   ·rw[if_neg (by simp;omega)];exact hback _ rfl (by omega)
  ·rw[if_neg (by simp;omega)];exact hback _ rfl (by omega)) (by omega)
 exact key
end Go.Cm
end
