import Derived.Test.YtjacdajcppcdlaaGreatDoorPlReturnTimeb
set_option linter.unusedVariables false
set_option maxRecDepth 100000
noncomputable section
namespace Go.Cm
open IntKind (wrap)
abbrev s_l03Means.A:=Int×Int×List (List RB)×Int×List Int×Int×List RB×List RB×List RB×List (List RB×Nat)×Int×Int×Unit
abbrev s_l03Means.B:=Int×Int×List Int×RB×List (List RB)×Int×List RB×List (List RB×Nat)×List RB×Int×Int×List RB×Unit
abbrev s_l03Means.C:=Int×Int×List Int×List (List RB)×List RB×List RB×List (List RB×Nat)×Unit
abbrev s_l03Means.D:=Option (List RB×Unit)
abbrev P.s_l03Means_b13 (g2:s_l03Means.C->s_l03Means.D) (x14:s_l03Means.B) (g15:s_l03Means.B->s_l03Means.D):s_l03Means.D:=
 (fun(a b f l m:Int) (c:List Int) (d:RB) (e:List (List RB)) (h j n:List RB) (i:List (List RB×Nat))=>if decide (a<b)then(S.s_l00Has (c,a,())).bind fun y16=>if !y16.1 then if decide (0<=f)then if decide (f<(e.length:Int))then if decide (0<=a)then if decide (a<(List.length (e.getD f.toNat []):Int))then if decide (0<=a)then if decide (a<(h.length:Int))then(S.s_l01Times (((List.getD (e.getD f.toNat []) a.toNat (false,[],[])).1,(List.getD (e.getD f.toNat []) a.toNat (false,[],[])).2.1,(List.getD (e.getD f.toNat []) a.toNat (false,[],[])).2.2),((h.getD a.toNat (false,[],[])).1,(h.getD a.toNat (false,[],[])).2.1,(h.getD a.toNat (false,[],[])).2.2),())).bind fun y17=>(S.s_l01Sum ((d.1,d.2.1,d.2.2),(y17.1.1,y17.1.2.1,y17.1.2.2),())).bind fun y18=>if dup (List.map (fun(y19:Nat×Nat)=>y19.1) (hd0 i))then none else g15 (wrap .i64 (a+1),b,c,(y18.1.1,y18.1.2.1,y18.1.2.2),e,f,h,nrm (hd0 i) (in0 i),j,l,m,n,())else none else none else none else none else none else none else if dup (List.map (fun(y20:Nat×Nat)=>y20.1) (hd0 i))then none else g15 (wrap .i64 (a+1),b,c,(d.1,d.2.1,d.2.2),e,f,h,nrm (hd0 i) (in0 i),j,l,m,n,())else if decide (((j.length+(List.length [(d.1,d.2.1,d.2.2)]))*56)<=140737488355328)then if decide ((((List.length (hd0 i))+(List.length (hd0 [(j++[(d.1,d.2.1,d.2.2)],List.length (j++[(d.1,d.2.1,d.2.2)]))])))*24)<=140737488355328)then if dup (List.map (fun(y21:Nat×Nat)=>y21.1) (joinH (List.length (in0 i)) (hd0 i) (hd0 [(j++[(d.1,d.2.1,d.2.2)],List.length (j++[(d.1,d.2.1,d.2.2)]))])))then none else g2 (wrap .i64 (l+1),m,c,e,n,h,nrm (joinH (List.length (in0 i)) (hd0 i) (hd0 [(j++[(d.1,d.2.1,d.2.2)],List.length (j++[(d.1,d.2.1,d.2.2)]))])) ((in0 i)++[j++[(d.1,d.2.1,d.2.2)]]),())else none else none) x14.1 x14.2.1 x14.2.2.2.2.2.1 x14.2.2.2.2.2.2.2.2.2.1 x14.2.2.2.2.2.2.2.2.2.2.1 x14.2.2.1 x14.2.2.2.1 x14.2.2.2.2.1 x14.2.2.2.2.2.2.1 x14.2.2.2.2.2.2.2.2.1 x14.2.2.2.2.2.2.2.2.2.2.2.1 x14.2.2.2.2.2.2.2.1
abbrev P.s_l03Means_b4 (k:Nat) (g2:s_l03Means.C->s_l03Means.D) (x5:s_l03Means.A) (g6:s_l03Means.A->s_l03Means.D):s_l03Means.D:=
 (fun(a b d f m n:Int) (c:List (List RB)) (e:List Int) (h i j:List RB) (l:List (List RB×Nat))=>if decide (a<b)then if decide (0<=d)then if decide (d<(c.length:Int))then if decide (0<=a)then if decide (a<(e.length:Int))then if decide (0<=(e.getD a.toNat 0))then if decide ((e.getD a.toNat 0)<(List.length (c.getD d.toNat []):Int))then(S.s_l01Opposite (((List.getD (c.getD d.toNat []) (Int.toNat (e.getD a.toNat 0)) (false,[],[])).1,(List.getD (c.getD d.toNat []) (Int.toNat (e.getD a.toNat 0)) (false,[],[])).2.1,(List.getD (c.getD d.toNat []) (Int.toNat (e.getD a.toNat 0)) (false,[],[])).2.2),())).bind fun y7=>if f==a then(S.s_l01One ()).bind fun y8=>(S.s_l01Sum ((y7.1.1,y7.1.2.1,y7.1.2.2),(y8.1.1,y8.1.2.1,y8.1.2.2),())).bind fun y9=>if decide (((h.length+(List.length [(y9.1.1,y9.1.2.1,y9.1.2.2)]))*56)<=140737488355328)then if dup (List.map (fun(y10:Nat×Nat)=>y10.1) (hd0 l))then none else g6 (wrap .i64 (a+1),b,c,d,e,f,h++[(y9.1.1,y9.1.2.1,y9.1.2.2)],i,j,nrm (hd0 l) (in0 l),m,n,())else none else if decide (((h.length+(List.length [(y7.1.1,y7.1.2.1,y7.1.2.2)]))*56)<=140737488355328)then if dup (List.map (fun(y11:Nat×Nat)=>y11.1) (hd0 l))then none else g6 (wrap .i64 (a+1),b,c,d,e,f,h++[(y7.1.1,y7.1.2.1,y7.1.2.2)],i,j,nrm (hd0 l) (in0 l),m,n,())else none else none else none else none else none else none else none else if decide (0<=d)then if decide (d<(i.length:Int))then if dup (List.map (fun(y12:Nat×Nat)=>y12.1) (hd0 l))then none else loopP (P.s_l03Means_b13 g2) k (0,(c.length:Int),e,((i.getD d.toNat (false,[],[])).1,(i.getD d.toNat (false,[],[])).2.1,(i.getD d.toNat (false,[],[])).2.2),c,d,j,nrm (hd0 l) (in0 l),h,m,n,i,())else none else none) x5.1 x5.2.1 x5.2.2.2.1 x5.2.2.2.2.2.1 x5.2.2.2.2.2.2.2.2.2.2.1 x5.2.2.2.2.2.2.2.2.2.2.2.1 x5.2.2.1 x5.2.2.2.2.1 x5.2.2.2.2.2.2.1 x5.2.2.2.2.2.2.2.1 x5.2.2.2.2.2.2.2.2.1 x5.2.2.2.2.2.2.2.2.2.1
abbrev P.s_l03Means_b24 (x25:Int×Int×List RB×List Int×List RB×Unit) (g26:Int×Int×List RB×List Int×List RB×Unit->s_l03Means.D):s_l03Means.D:=
 (fun(a b:Int) (c e:List RB) (d:List Int)=>if decide (a<b)then if decide (0<=a)then if decide (a<(d.length:Int))then if decide (0<=a)then if decide (a<(e.length:Int))then if decide (0<=(d.getD a.toNat 0))then if decide ((d.getD a.toNat 0)<(c.length:Int))then g26 (wrap .i64 (a+1),b,c.set (0+(Int.toNat (d.getD a.toNat 0))) ((e.getD a.toNat (false,[],[])).1,(e.getD a.toNat (false,[],[])).2.1,(e.getD a.toNat (false,[],[])).2.2),d,e,())else none else none else none else none else none else none else some (c,())) x25.1 x25.2.1 x25.2.2.1 x25.2.2.2.2.1 x25.2.2.2.1
abbrev P.s_l03Means_b0 (k:Nat) (x1:s_l03Means.C) (g2:s_l03Means.C->s_l03Means.D):s_l03Means.D:=
 if decide (x1.1<x1.2.1)then if decide (0<=x1.1)then if decide (x1.1<(x1.2.2.1.length:Int))then if dup (List.map (fun(y3:Nat×Nat)=>y3.1) (hd0 x1.2.2.2.2.2.2.1))then none else loopP (P.s_l03Means_b4 k g2) k (0,(x1.2.2.1.length:Int),x1.2.2.2.1,x1.2.2.1.getD x1.1.toNat 0,x1.2.2.1,x1.1,[],x1.2.2.2.2.1,x1.2.2.2.2.2.1,nrm (hd0 x1.2.2.2.2.2.2.1) (in0 x1.2.2.2.2.2.2.1),x1.1,x1.2.1,())else none else none else if dup (List.map (fun(y22:Nat×Nat)=>y22.1) (hd0 x1.2.2.2.2.2.2.1))then none else(S.s_l03Solve (nrm (hd0 x1.2.2.2.2.2.2.1) (in0 x1.2.2.2.2.2.2.1),())).bind fun y23=>if decide (((0+x1.2.2.2.2.2.1.length)*56)<=140737488355328)then loopP P.s_l03Means_b24 k (0,(x1.2.2.1.length:Int),[]++x1.2.2.2.2.2.1,x1.2.2.1,y23.1.1,())else none
def P.s_l03Means (k:Nat) (x:List (List RB)×List Int×List RB×List RB×Unit):s_l03Means.D:=
 loopP (P.s_l03Means_b0 k) k (0,(x.2.1.length:Int),x.2.1,x.1,x.2.2.1,x.2.2.2.1,nrm (hd0 ([]:List (List RB×Nat))) (in0 ([]:List (List RB×Nat))),())
theorem sme_one:S.s_l01One ()=some (rp B10 oneQ,()):=by rfl
theorem sme_has {c:Nat->Bool} {n j:Nat} (hn:n<=12) (hj:j<n):S.s_l00Has (zs (fl c n),(j:Int),())=some (c j,()):=by
 have hl:=fl_le c n;unfold S.s_l00Has;dsimp only;rw[if_pos (by rw[zs_len];omega)];exact congrArg (fun b=>some (b,())) (cZ_fl hj)
theorem sme_opp {a:Q3} (ha:okq a):S.s_l01Opposite (((rp B10 a).1,(rp B10 a).2.1,(rp B10 a).2.2),())=some (rp B10 (oppQ a),()):=by
 have h:=(lowb_iff.1 (okq_low (B:=B10) (by decide) ha)).1;show S.s_l01Opposite (rp B10 a,())=_;unfold S.s_l01Opposite;dsimp only;rw[if_pos h,rv_rp a0d]
theorem sme_add {a b:Q3} (ha:okq a) (hb:okq b):S.s_l01Sum (((rp B10 a).1,(rp B10 a).2.1,(rp B10 a).2.2),((rp B10 b).1,(rp B10 b).2.1,(rp B10 b).2.2),())=some (rp B10 (addQ a b),()):=rs_add ha.1 ha.2 hb.1 hb.2 (Nat.le_refl _) (Nat.le_refl _)
theorem sme_mul {a b:Q3} (ha:okq a) (hb:okq b):S.s_l01Times (((rp B10 a).1,(rp B10 a).2.1,(rp B10 a).2.2),((rp B10 b).1,(rp B10 b).2.1,(rp B10 b).2.2),())=some (rp B10 (mulQ a b),()):=rs_mul ha.1 ha.2 hb.1 hb.2 (Nat.le_refl _) (Nat.le_refl _)
theorem zo_ok {f:Nat->Q3} (h:zo f) (i:Nat):okq (f i):=by
 rcases h i with q|q
 ·rw[q];exact okq_zero
 ·rw[q];exact okq_one
theorem mulz_ok {q:Q3} (hq:okq q) {f:Nat->Q3} (h:zo f) (i:Nat):okq (mulQ q (f i)):=by
 rcases h i with e|e
 ·rw[e,mul_zero hq.1];exact okq_zero
 ·rw[e,mul_one hq.1];exact hq
theorem sme_right {M:List (List Q3)} (h:isCh M) {c:Nat->Bool} {ow gv:Nat->Q3} (ho:zo ow) (hg:zo gv) {k:Nat} (hk:k<(fl c M.length).length) (g) {K:Nat} (hK:12<K):
  loopP (P.s_l03Means_b13 g) K ((0:Int),(M.length:Int),zs (fl c M.length),rp B10 (ow ((fl c M.length).getD k 0)),mp B10 M,(((fl c M.length).getD k 0:Nat):Int),(tab M.length gv).map (rp B10),om B10 k ((fl c M.length).length+1) (meA M c ow gv),(tab (fl c M.length).length (meA M c ow gv k)).map (rp B10),(k:Int),((fl c M.length).length:Int),(tab M.length ow).map (rp B10),())=g (((k+1:Nat):Int),((fl c M.length).length:Int),zs (fl c M.length),mp B10 M,(tab M.length ow).map (rp B10),(tab M.length gv).map (rp B10),om B10 (k+1) ((fl c M.length).length+1) (meA M c ow gv),()):=by
 have hI:=h.2.1;have hn:=hI.1;have hfl:=fl_le c M.length;have hi:=(fl_at hk).1;have key:=a0g (k:=K) (b:=P.s_l03Means_b13 g) (n:=M.length) (st:=fun j=>((j:Int),(M.length:Int),zs (fl c M.length),rp B10 (riQ M c ow gv ((fl c M.length).getD k 0) j),mp B10 M,(((fl c M.length).getD k 0:Nat):Int),(tab M.length gv).map (rp B10),om B10 k ((fl c M.length).length+1) (meA M c ow gv),(tab (fl c M.length).length (meA M c ow gv k)).map (rp B10),(k:Int),((fl c M.length).length:Int),(tab M.length ow).map (rp B10),())) (F:=fun _=>g (((k+1:Nat):Int),((fl c M.length).length:Int),zs (fl c M.length),mp B10 M,(tab M.length ow).map (rp B10),(tab M.length gv).map (rp B10),om B10 (k+1) ((fl c M.length).length+1) (meA M c ow gv),())) (fun j g' hj hg'=>by
  unfold P.s_l03Means_b13;dsimp only at hg' ⊢;generalize (fl c M.length).getD k 0=i at*;have e1:(j:Int)<(M.length:Int):=by omega
  have e2:(0:Int)<=(j:Int):=by omega
  have e3:(0:Int)<=(i:Int):=by omega
  have e4:(i:Int)<(M.length:Int):=by omega
  have e8:((mp B10 M).getD i []).getD j (false,(([]:List Int),([]:List Int)))=rp B10 (mq M i j):=mq_held hI hi hj;have e9:((tab M.length gv).map (rp B10)).getD j (false,(([]:List Int),([]:List Int)))=rp B10 (gv j):=om_num hj _;have hm:okq (mq M i j):=okq_200 ⟨(ch_at h hi hj).1,(ch_at h hi hj).2.1⟩;have hs:riQ M c ow gv i (j+1)=if c j=true then riQ M c ow gv i j else addQ (riQ M c ow gv i j) (mulQ (mq M i j) (gv j)):=rfl
  rw[hs]at hg';have e10:=sme_mul hm (zo_ok hg j);have e11:=sme_add (riQ_ok h (c:=c) ho hg hi (k:=j) (by omega)) (mulz_ok hm hg j);rw[if_pos (decide_eq_true e1),sme_has hn hj,Option.bind_some];dsimp only;simp only[Int.toNat_natCast,mp_len,mq_wide hI hi,List.length_map,a1c,hd0_dup,nrm_hd0,e1,e2,e3,e4,e8,e9,decide_true,if_true,Bool.false_eq_true,if_false];rw[wr (by omega) (by omega)];cases hc:c j
  ·rw[hc,if_neg (by decide)]at hg';rw[if_pos (by rfl),e10,Option.bind_some];dsimp only;rw[e11,Option.bind_some];exact hg'
  ·rw[hc,if_pos rfl]at hg';rw[if_neg (by decide)];exact hg') (fun g'=>by
  unfold P.s_l03Means_b13;dsimp only;have e1:((fl c M.length).length+1)*56<=140737488355328:=by omega
  have e3:(k+1)*24<=140737488355328:=by omega
  have e2:= @om_app B10 k ((fl c M.length).length+1) (meA M c ow gv);have hv:meA M c ow gv k (fl c M.length).length=riQ M c ow gv ((fl c M.length).getD k 0) M.length:=by
   unfold meA hA;rw[if_pos rfl]
  rw[<-tabm_snoc,hv]at e2;rw[if_neg (by simp),wr (by omega) (by omega)];have hlen:∀q:Bool×(List Int×List Int),((tab (fl c M.length).length (meA M c ow gv k)).map (rp B10)++[q]).length=(fl c M.length).length+1:=fun q=>by simp [a1c]
  have e4:∀q:Q3,((rp B10 q).1,(rp B10 q).2.1,(rp B10 q).2.2)=rp B10 q:=fun _=>rfl
  simp only[e4,hlen,a0t,om_len,List.length_map,a1c,List.length_cons,List.length_nil,Nat.zero_add,e1,e3,e2.1,e2.2,decide_true,if_true,Bool.false_eq_true,if_false];rfl) (by omega)
 exact key
theorem sme_row {M:List (List Q3)} (h:isCh M) {c:Nat->Bool} {ow gv:Nat->Q3} (ho:zo ow) (hg:zo gv) {k:Nat} (hk:k<(fl c M.length).length) (g) {K:Nat} (hK:12<K):
  loopP (P.s_l03Means_b4 K g) K ((0:Int),((fl c M.length).length:Int),mp B10 M,(((fl c M.length).getD k 0:Nat):Int),zs (fl c M.length),(k:Int),([]:List (Bool×(List Int×List Int))),(tab M.length ow).map (rp B10),(tab M.length gv).map (rp B10),om B10 k ((fl c M.length).length+1) (meA M c ow gv),(k:Int),((fl c M.length).length:Int),())=g (((k+1:Nat):Int),((fl c M.length).length:Int),zs (fl c M.length),mp B10 M,(tab M.length ow).map (rp B10),(tab M.length gv).map (rp B10),om B10 (k+1) ((fl c M.length).length+1) (meA M c ow gv),()):=by
 have hI:=h.2.1;have hn:=hI.1;have hfl:=fl_le c M.length;have hi:=(fl_at hk).1;have key:=a0g (k:=K) (b:=P.s_l03Means_b4 K g) (n:=(fl c M.length).length) (st:=fun r=>((r:Int),((fl c M.length).length:Int),mp B10 M,(((fl c M.length).getD k 0:Nat):Int),zs (fl c M.length),(k:Int),(tab r (meA M c ow gv k)).map (rp B10),(tab M.length ow).map (rp B10),(tab M.length gv).map (rp B10),om B10 k ((fl c M.length).length+1) (meA M c ow gv),(k:Int),((fl c M.length).length:Int),())) (F:=fun _=>g (((k+1:Nat):Int),((fl c M.length).length:Int),zs (fl c M.length),mp B10 M,(tab M.length ow).map (rp B10),(tab M.length gv).map (rp B10),om B10 (k+1) ((fl c M.length).length+1) (meA M c ow gv),())) (fun r g' hr hg'=>by
  unfold P.s_l03Means_b4;dsimp only at hg' ⊢;have hj:=(fl_at hr).1;have hv:meA M c ow gv k r=if k=r then addQ (oppQ (leN M false c k r)) oneQ else oppQ (leN M false c k r):=hA_at _ _ _ _ hr
  have hl:leN M false c k r=mq M ((fl c M.length).getD k 0) ((fl c M.length).getD r 0):=by
   unfold leN;rw[if_neg (by decide)];rfl
  have hok:=leN_ok h (tu:=false) hk hr;rw[hl]at hv hok;generalize (fl c M.length).getD k 0=i at*;have e1:(r:Int)<((fl c M.length).length:Int):=by omega
  have e2:(0:Int)<=(r:Int):=by omega
  have e3:(0:Int)<=(i:Int):=by omega
  have e4:(i:Int)<(M.length:Int):=by omega
  have e5:(0:Int)<=(((fl c M.length).getD r 0:Nat):Int):=by omega
  have e6:(((fl c M.length).getD r 0:Nat):Int)<(M.length:Int):=by omega
  have e7:(r+1)*56<=140737488355328:=by omega
  have e8:((mp B10 M).getD i []).getD ((fl c M.length).getD r 0) (false,(([]:List Int),([]:List Int)))=rp B10 (mq M i ((fl c M.length).getD r 0)):=mq_held hI hi hj;have e9:∀q:Q3,((rp B10 q).1,(rp B10 q).2.1,(rp B10 q).2.2)=rp B10 q:=fun _=>rfl
  rw[<-tabm_snoc,hv]at hg';simp only[zs_len,getD_zs,Int.toNat_natCast,mp_len,mq_wide hI hi,List.length_map,a1c,List.length_cons,List.length_nil,Nat.zero_add,hd0_dup,nrm_hd0,e1,e2,e3,e4,e5,e6,e7,e8,decide_true,if_true,Bool.false_eq_true,if_false];rw[sme_opp hok.1,Option.bind_some,wr (by omega) (by omega)];dsimp only
  by_cases hkr:k=r
  ·rw[if_pos hkr]at hg';rw[if_pos (by rw[beq_iff_eq];omega),sme_one,Option.bind_some,sme_add hok.2 okq_one,Option.bind_some];exact hg'
  ·rw[if_neg hkr]at hg';rw[if_neg (by rw[beq_iff_eq];omega)];exact hg') (fun g'=>by
  unfold P.s_l03Means_b4;dsimp only;have e3:(0:Int)<=(((fl c M.length).getD k 0:Nat):Int):=by omega
  have e4:(((fl c M.length).getD k 0:Nat):Int)<(M.length:Int):=by omega
  have e9:((tab M.length ow).map (rp B10)).getD ((fl c M.length).getD k 0) (false,(([]:List Int),([]:List Int)))=rp B10 (ow ((fl c M.length).getD k 0)):=om_num hi _;rw[if_neg (by simp)];simp only[Int.toNat_natCast,mp_len,List.length_map,a1c,hd0_dup,nrm_hd0,e3,e4,e9,decide_true,if_true,Bool.false_eq_true,if_false];exact sme_right h ho hg hk g hK) (by omega)
 exact key
open Classical in
def S.s_l03Means (x:((List (List RB))×((List Int)×((List RB)×((List RB)×Unit))))):(Option ((List RB)×Unit)):=if ∃M,isCh M/\x.1=mp B10 M/\x.2.1=zs (fl (cZ x.2.1) M.length)/\x.2.2.1=(tab M.length (zoL x.2.2.1)).map (rp B10)/\x.2.2.2.1=(tab M.length (zoL x.2.2.2.1)).map (rp B10)/\wayOut M (cZ x.2.1)then some ((meL (mv B10 x.1) (cZ x.2.1) (zoL x.2.2.1) (zoL x.2.2.2.1)).map (rp B10),())else none
theorem S.s_l03Means_ok (x r) (h:S.s_l03Means x=some r):∃k,P.s_l03Means k x=some r:=by
 obtain⟨m,L,W,G,u⟩:=x;unfold S.s_l03Means at h;dsimp only at h;split at h
 case isFalse=>cases h
 rename_i hc;obtain⟨M,hM,rfl,hL,hW,hG,hw⟩:=hc;rw[mv_mp (by decide)]at h;have ho:=zoL_zo W;have hg:=zoL_zo G;generalize zoL W=ow at*;generalize zoL G=gv at*;generalize cZ L=c at*;subst hL hW hG;cases h;have hI:=hM.2.1;have hn:=hI.1;have hfl:=fl_le c M.length;refine⟨13,?_⟩;unfold P.s_l03Means;dsimp only;rw[zs_len];have key:=a0g (k:=13) (b:=P.s_l03Means_b0 13) (n:=(fl c M.length).length) (st:=fun k=>((k:Int),((fl c M.length).length:Int),zs (fl c M.length),mp B10 M,(tab M.length ow).map (rp B10),(tab M.length gv).map (rp B10),om B10 k ((fl c M.length).length+1) (meA M c ow gv),())) (F:=fun _=>some ((meL M c ow gv).map (rp B10),())) (fun k g hk hg'=>by
  unfold P.s_l03Means_b0;dsimp only at hg' ⊢;have e1:(k:Int)<((fl c M.length).length:Int):=by omega
  have e2:(0:Int)<=(k:Int):=by omega
  simp only[zs_len,getD_zs,Int.toNat_natCast,hd0_dup,nrm_hd0,e1,e2,decide_true,if_true,Bool.false_eq_true,if_false];rw[<-hg'];exact sme_row hM ho hg hk g (by decide)) (fun g=>by
  unfold P.s_l03Means_b0;dsimp only;have e3:M.length*56<=140737488355328:=by omega
  rw[if_neg (by simp),hd0_dup,nrm_hd0,if_neg (by decide),solve_s (me_els hM ho hg hw),Option.bind_some];simp only[zs_len,Nat.zero_add,List.length_map,a1c,List.nil_append,e3,decide_true,if_true];have key2:=a0g (k:=13) (b:=P.s_l03Means_b24) (n:=(fl c M.length).length) (st:=fun a=>((a:Int),((fl c M.length).length:Int),(puts M.length c (solS (meA M c ow gv) (fl c M.length).length) gv a).map (rp B10),zs (fl c M.length),(tab (fl c M.length).length (solS (meA M c ow gv) (fl c M.length).length)).map (rp B10),())) (F:=fun _=>some ((meL M c ow gv).map (rp B10),())) (fun a g' ha hg'=>by
   unfold P.s_l03Means_b24;dsimp only at hg' ⊢;obtain⟨q1,q2⟩:=fl_at ha;have e1:(a:Int)<((fl c M.length).length:Int):=by omega
   have e2:(0:Int)<=(a:Int):=by omega
   have e5:(0:Int)<=(((fl c M.length).getD a 0:Nat):Int):=by omega
   have e6:(((fl c M.length).getD a 0:Nat):Int)<(M.length:Int):=by omega
   simp only[zs_len,getD_zs,Int.toNat_natCast,List.length_map,a1c,puts_len,om_num ha,Nat.zero_add,e1,e2,e5,e6,decide_true,if_true];rw[wr (by omega) (by omega)];rw[<-puts_set ha]at hg';exact hg') (fun g'=>by
   unfold P.s_l03Means_b24;dsimp only;rw[if_neg (by simp),puts_all];rfl) (by omega)
  rw[puts_zero]at key2;exact key2) (by omega)
 exact key
abbrev s_l03Hits.A:=Int×Int×List RB×List Int×List RB×List (List RB)×Unit
abbrev P.s_l03Hits_b0 (x1:s_l03Hits.A) (g2:s_l03Hits.A->Option (List RB×Unit)):Option (List RB×Unit):=
 (fun(a b:Int) (c e:List RB) (d:List Int) (f:List (List RB))=>if decide (a<b)then(S.s_l01None ()).bind fun y3=>if decide (((c.length+(List.length [(y3.1.1,y3.1.2.1,y3.1.2.2)]))*56)<=140737488355328)then(S.s_l00Has (d,a,())).bind fun y4=>if y4.1 then(S.s_l01One ()).bind fun y5=>if decide (((e.length+(List.length [(y5.1.1,y5.1.2.1,y5.1.2.2)]))*56)<=140737488355328)then g2 (wrap .i64 (a+1),b,c++[(y3.1.1,y3.1.2.1,y3.1.2.2)],d,e++[(y5.1.1,y5.1.2.1,y5.1.2.2)],f,())else none else(S.s_l01None ()).bind fun y6=>if decide (((e.length+(List.length [(y6.1.1,y6.1.2.1,y6.1.2.2)]))*56)<=140737488355328)then g2 (wrap .i64 (a+1),b,c++[(y3.1.1,y3.1.2.1,y3.1.2.2)],d,e++[(y6.1.1,y6.1.2.1,y6.1.2.2)],f,())else none else none else(S.s_l03Inner (f,d,())).bind fun y7=>(S.s_l03Means (f,y7.1,c,e,())).bind fun y8=>some (y8.1,())) x1.1 x1.2.1 x1.2.2.1 x1.2.2.2.2.1 x1.2.2.2.1 x1.2.2.2.2.2.1
def P.s_l03Hits (k:Nat) (x:List (List RB)×List Int×Unit):Option (List RB×Unit):=
 loopP P.s_l03Hits_b0 k (0,(x.1.length:Int),[],x.2.1,[],x.1,())
theorem shi_has {ts:List Int} (h:ts.length<=1000000) (j:Nat):S.s_l00Has (ts,(j:Int),())=some (tgF ts j,()):=by
 unfold S.s_l00Has;dsimp only;rw[if_pos h];rfl
theorem shi_one:S.s_l01One ()=some (rp B10 oneQ,()):=by rfl
theorem shi_none:S.s_l01None ()=some (rp B10 a1f,()):=by rfl
open Classical in
def S.s_l03Hits (x:((List (List RB))×((List Int)×Unit))):(Option ((List RB)×Unit)):=if(∃M,isCh M/\x.1=mp B10 M)/\x.2.1.length<=1000000 then some ((hitL (mv B10 x.1) (tgF x.2.1)).map (rp B10),())else none
theorem S.s_l03Hits_ok (x r) (h:S.s_l03Hits x=some r):∃k,P.s_l03Hits k x=some r:=by
 obtain⟨m,ts,u⟩:=x;unfold S.s_l03Hits at h;dsimp only at h;split at h
 case isFalse=>cases h
 rename_i hc;obtain⟨⟨M,hM,rfl⟩,ht⟩:=hc;rw[mv_mp (by decide)]at h;cases h;have hI:=hM.2.1;have hn:=hI.1;have hn0:0<M.length:=hM.1;refine⟨13,?_⟩;unfold P.s_l03Hits;dsimp only;rw[mp_len];exact a0g (k:=13) (b:=P.s_l03Hits_b0) (n:=M.length) (st:=fun i=>((i:Int),(M.length:Int),(tab i nilQ).map (rp B10),ts,(tab i (tgQ (tgF ts))).map (rp B10),mp B10 M,())) (F:=fun _=>some ((hitL M (tgF ts)).map (rp B10),())) (fun i g hi hg=>by
  unfold P.s_l03Hits_b0;dsimp only at hg ⊢;have e1:(i:Int)<(M.length:Int):=by omega
  have e3:(i+1)*56<=140737488355328:=by omega
  have e4:∀q:Q3,((rp B10 q).1,(rp B10 q).2.1,(rp B10 q).2.2)=rp B10 q:=fun _=>rfl
  have hv:tgQ (tgF ts) i=if tgF ts i=true then oneQ else a1f:=rfl
  rw[<-tabm_snoc,<-tabm_snoc,hv]at hg;rw[if_pos (decide_eq_true e1),shi_none,Option.bind_some,shi_has ht,Option.bind_some,shi_one];dsimp only;simp only[e4,List.length_map,a1c,List.length_cons,List.length_nil,Nat.zero_add,e3,decide_true,if_true,Option.bind_some];rw[wr (by omega) (by omega)];cases hc:tgF ts i
  ·rw[hc,if_neg (by decide)]at hg;rw[if_neg (by decide)];exact hg
  ·rw[hc,if_pos rfl]at hg;rw[if_pos rfl];exact hg) (fun g=>by
  unfold P.s_l03Hits_b0;dsimp only;have ei:S.s_l03Inner (mp B10 M,ts,())=some (zs (fl (inC M (tgF ts)) M.length),()):=by
   unfold S.s_l03Inner;dsimp only;rw[if_pos ⟨⟨M,hI,rfl⟩,ht⟩,mv_mp (by decide),mp_len]
  have hz:∀i,i<M.length->cZ (zs (fl (inC M (tgF ts)) M.length)) i=inC M (tgF ts) i:=fun i hi=>cZ_fl hi
  have h1:∀i,i<M.length->zoL ((tab M.length nilQ).map (rp B10)) i=nilQ i:=fun i hi=>zoL_at nilQ_zo hi
  have h2:∀i,i<M.length->zoL ((tab M.length (tgQ (tgF ts))).map (rp B10)) i=tgQ (tgF ts) i:=fun i hi=>zoL_at (tgQ_zo _) hi
  have em:S.s_l03Means (mp B10 M,zs (fl (inC M (tgF ts)) M.length),(tab M.length nilQ).map (rp B10),(tab M.length (tgQ (tgF ts))).map (rp B10),())=some ((hitL M (tgF ts)).map (rp B10),()):=by
   unfold S.s_l03Means;dsimp only
   rw[if_pos ⟨M,hM,rfl,by rw[cZ_self],by rw[a0w h1],by rw[a0w h2],fun i hi hc=>by
    rw[hz i hi]at hc;obtain⟨j,hj,q,w⟩:=inC_out i hi hc;exact⟨j,hj,by rw[hz j hj];exact q,w⟩⟩,mv_mp (by decide),meL_congr hn0 hz h1 h2,hit_same hM]
  rw[if_neg (by simp),ei,Option.bind_some];dsimp only;rw[em,Option.bind_some]) (by omega)
abbrev s_l03Sure.A:=Int×Int×List RB×List RB×List Int×List RB×List Int×List (List RB)×Unit
abbrev P.s_l03Sure_b0 (x1:s_l03Sure.A) (g2:s_l03Sure.A->Option (List RB×Unit)):Option (List RB×Unit):=
 (fun(a b:Int) (c d f:List RB) (e h:List Int) (i:List (List RB))=>if decide (a<b)then(S.s_l01One ()).bind fun y3=>if decide (((c.length+(List.length [(y3.1.1,y3.1.2.1,y3.1.2.2)]))*56)<=140737488355328)then(S.s_l01None ()).bind fun y4=>if decide (((d.length+(List.length [(y4.1.1,y4.1.2.1,y4.1.2.2)]))*56)<=140737488355328)then(S.s_l00Has (e,a,())).bind fun y5=>if !y5.1 then if decide (0<=a)then if decide (a<(f.length:Int))then(S.s_l01One ()).bind fun y6=>(S.s_l01Equal (((f.getD a.toNat (false,[],[])).1,(f.getD a.toNat (false,[],[])).2.1,(f.getD a.toNat (false,[],[])).2.2),(y6.1.1,y6.1.2.1,y6.1.2.2),())).bind fun y7=>if y7.1 then if decide (((h.length+(List.length [a]))*8)<=140737488355328)then g2 (wrap .i64 (a+1),b,c++[(y3.1.1,y3.1.2.1,y3.1.2.2)],d++[(y4.1.1,y4.1.2.1,y4.1.2.2)],e,f,h++[a],i,())else none else g2 (wrap .i64 (a+1),b,c++[(y3.1.1,y3.1.2.1,y3.1.2.2)],d++[(y4.1.1,y4.1.2.1,y4.1.2.2)],e,f,h,i,())else none else none else g2 (wrap .i64 (a+1),b,c++[(y3.1.1,y3.1.2.1,y3.1.2.2)],d++[(y4.1.1,y4.1.2.1,y4.1.2.2)],e,f,h,i,())else none else none else(S.s_l03Means (i,h,c,d,())).bind fun y8=>some (y8.1,())) x1.1 x1.2.1 x1.2.2.1 x1.2.2.2.1 x1.2.2.2.2.2.1 x1.2.2.2.2.1 x1.2.2.2.2.2.2.1 x1.2.2.2.2.2.2.2.1
def P.s_l03Sure (k:Nat) (x:List (List RB)×List Int×List RB×Unit):Option (List RB×Unit):=
 loopP P.s_l03Sure_b0 k (0,(x.1.length:Int),[],[],x.2.1,x.2.2.1,[],x.1,())
open Classical in
def S.s_l03Sure (x:((List (List RB))×((List Int)×((List RB)×Unit)))):(Option ((List RB)×Unit)):=if ∃M,∃s:Nat,isCh M/\x.1=mp B10 M/\s<M.length/\x.2.1=[(s:Int)]/\x.2.2.1=(hitL M (stF s)).map (rp B10)then some ((tmL (mv B10 x.1) (cSu (mv B10 x.1) (x.2.1.getD 0 0).toNat)).map (rp B10),())else none
theorem S.s_l03Sure_ok (x r) (h:S.s_l03Sure x=some r):∃k,P.s_l03Sure k x=some r:=by
 obtain⟨m,ts,hs,u⟩:=x;unfold S.s_l03Sure at h;dsimp only at h;split at h
 case isFalse=>cases h
 rename_i hc;obtain⟨M,s,hM,rfl,hsn,rfl,rfl⟩:=hc;rw[mv_mp (by decide)]at h;cases h;have e0:([(s:Int)].getD 0 0).toNat=s:=by simp
 rw[e0];have hn:=hM.2.1.1;have hn0:0<M.length:=hM.1;refine⟨13,?_⟩;unfold P.s_l03Sure;dsimp only;rw[mp_len];have hhas:∀j:Nat,S.s_l00Has ([(s:Int)],(j:Int),())=some (stF s j,()):=fun j=>by
  unfold S.s_l00Has;dsimp only;rw[if_pos (by simp)];exact congrArg (fun f:Nat->Bool=>some (f j,())) (tgF_one s)
 exact a0g (k:=13) (b:=P.s_l03Sure_b0) (n:=M.length) (st:=fun i=>((i:Int),(M.length:Int),(tab i oneF).map (rp B10),(tab i nilQ).map (rp B10),[(s:Int)],(hitL M (stF s)).map (rp B10),zs (fl (cSu M s) i),mp B10 M,())) (F:=fun _=>some ((tmL M (cSu M s)).map (rp B10),())) (fun i g hi hg=>by
  unfold P.s_l03Sure_b0;dsimp only at hg ⊢;have hli:=fl_le (cSu M s) i;have e1:(i:Int)<(M.length:Int):=by omega
  have e2:(0:Int)<=(i:Int):=by omega
  have e3:(i+1)*56<=140737488355328:=by omega
  have e5:((fl (cSu M s) i).length+1)*8<=140737488355328:=by omega
  have e4:∀q:Q3,((rp B10 q).1,(rp B10 q).2.1,(rp B10 q).2.2)=rp B10 q:=fun _=>rfl
  have e8:((hitL M (stF s)).map (rp B10)).getD i (false,(([]:List Int),([]:List Int)))=rp B10 (hQ M (stF s) i):=om_num hi _;have e9:(hitL M (stF s)).length=M.length:=by rw[hitL_tab,a1c]
  have o1:S.s_l01One ()=some (rp B10 oneQ,()):=by rfl
  have o2:S.s_l01None ()=some (rp B10 a1f,()):=by rfl
  have hk:=hQ_low hM (stF s) hi;have ee:S.s_l01Equal (rp B10 (hQ M (stF s) i),rp B10 oneQ,())=some (decide (hQ M (stF s) i=oneQ),()):=rs_equal hk.1 oneQ_low hk.2 (oneQ_below (by decide));have hv:cSu M s i=(!stF s i&&decide (hQ M (stF s) i=oneQ)):=rfl;rw[<-tabm_snoc,<-tabm_snoc,fl_succ,hv]at hg;rw[if_pos (decide_eq_true e1),o1,Option.bind_some,o2,hhas];dsimp only;simp only[e4,e8,e9,zs_len,Int.toNat_natCast,List.length_map,a1c,List.length_cons,List.length_nil,Nat.zero_add,e1,e2,e3,e5,decide_true,if_true,Option.bind_some,ee];rw[wr (by omega) (by omega)];cases hs1:stF s i
  ·rw[hs1]at hg;rw[if_pos (by decide)];cases hq:decide (hQ M (stF s) i=oneQ)
   ·rw[hq,if_neg (by decide),List.append_nil]at hg;rw[if_neg (by decide)];exact hg
   ·rw[hq,if_pos (by decide),zs_append]at hg;rw[if_pos rfl];exact hg
  ·rw[hs1,if_neg (by simp),List.append_nil]at hg;rw[if_neg (by decide)];exact hg) (fun g=>by
  unfold P.s_l03Sure_b0;dsimp only;have w2:=su_way (M:=M) hsn;have hz:∀i,i<M.length->cZ (zs (fl (cSu M s) M.length)) i=cSu M s i:=fun i hi=>cZ_fl hi
  have h1:∀i,i<M.length->zoL ((tab M.length oneF).map (rp B10)) i=oneF i:=fun i hi=>zoL_at oneF_zo hi
  have h2:∀i,i<M.length->zoL ((tab M.length nilQ).map (rp B10)) i=nilQ i:=fun i hi=>zoL_at nilQ_zo hi
  have em:S.s_l03Means (mp B10 M,zs (fl (cSu M s) M.length),(tab M.length oneF).map (rp B10),(tab M.length nilQ).map (rp B10),())=some ((tmL M (cSu M s)).map (rp B10),()):=by
   unfold S.s_l03Means;dsimp only;rw[if_pos ⟨M,hM,rfl,by rw[cZ_self],by rw[a0w h1],by rw[a0w h2],way_congr (fun i hi=>(hz i hi).symm) w2⟩,mv_mp (by decide),meL_congr hn0 hz h1 h2,tm_same hM w2]
  rw[if_neg (by simp),em,Option.bind_some]) (by omega)
abbrev s_ReturnTime.A:=Option ((ByteArray×Bool)×Unit)
abbrev P.s_ReturnTime_b13 (x14:Int×Int×RB×List (List RB)×Int×List RB×Unit) (g15:Int×Int×RB×List (List RB)×Int×List RB×Unit->s_ReturnTime.A):s_ReturnTime.A:=
 (fun(a b e:Int) (c:RB) (d:List (List RB)) (f:List RB)=>if decide (a<b)then if decide (0<=e)then if decide (e<(d.length:Int))then if decide (0<=a)then if decide (a<(List.length (d.getD e.toNat []):Int))then if decide (0<=a)then if decide (a<(f.length:Int))then(S.s_l01Times (((List.getD (d.getD e.toNat []) a.toNat (false,[],[])).1,(List.getD (d.getD e.toNat []) a.toNat (false,[],[])).2.1,(List.getD (d.getD e.toNat []) a.toNat (false,[],[])).2.2),((f.getD a.toNat (false,[],[])).1,(f.getD a.toNat (false,[],[])).2.1,(f.getD a.toNat (false,[],[])).2.2),())).bind fun y16=>(S.s_l01Sum ((c.1,c.2.1,c.2.2),(y16.1.1,y16.1.2.1,y16.1.2.2),())).bind fun y17=>g15 (wrap .i64 (a+1),b,(y17.1.1,y17.1.2.1,y17.1.2.2),d,e,f,())else none else none else none else none else none else none else(S.s_l01Give ((c.1,c.2.1,c.2.2),())).bind fun y18=>some ((y18.1.1,y18.1.2),())) x14.1 x14.2.1 x14.2.2.2.2.1 x14.2.2.1 x14.2.2.2.1 x14.2.2.2.2.2.1
abbrev P.s_ReturnTime_b4 (k:Nat) (x5:Int×Int×RB×List (List RB)×Int×List RB×List Int×Unit) (g6:Int×Int×RB×List (List RB)×Int×List RB×List Int×Unit->s_ReturnTime.A):s_ReturnTime.A:=
 (fun(a b e:Int) (c:RB) (d:List (List RB)) (f:List RB) (h:List Int)=>if decide (a<b)then if decide (0<=e)then if decide (e<(d.length:Int))then if decide (0<=a)then if decide (a<(List.length (d.getD e.toNat []):Int))then if decide (0<=a)then if decide (a<(f.length:Int))then(S.s_l01Times (((List.getD (d.getD e.toNat []) a.toNat (false,[],[])).1,(List.getD (d.getD e.toNat []) a.toNat (false,[],[])).2.1,(List.getD (d.getD e.toNat []) a.toNat (false,[],[])).2.2),((f.getD a.toNat (false,[],[])).1,(f.getD a.toNat (false,[],[])).2.1,(f.getD a.toNat (false,[],[])).2.2),())).bind fun y7=>(S.s_l01Sum ((c.1,c.2.1,c.2.2),(y7.1.1,y7.1.2.1,y7.1.2.2),())).bind fun y8=>g6 (wrap .i64 (a+1),b,(y8.1.1,y8.1.2.1,y8.1.2.2),d,e,f,h,())else none else none else none else none else none else none else(S.s_l01One ()).bind fun y9=>(S.s_l01Equal ((c.1,c.2.1,c.2.2),(y9.1.1,y9.1.2.1,y9.1.2.2),())).bind fun y10=>if !y10.1 then some ((bs [],false),())else(S.s_l03Sure (d,h,f,())).bind fun y11=>(S.s_l01One ()).bind fun y12=>loopP P.s_ReturnTime_b13 k (0,(d.length:Int),(y12.1.1,y12.1.2.1,y12.1.2.2),d,e,y11.1,())) x5.1 x5.2.1 x5.2.2.2.2.1 x5.2.2.1 x5.2.2.2.1 x5.2.2.2.2.2.1 x5.2.2.2.2.2.2.1
def P.s_ReturnTime (k:Nat) (x:List (List ByteArray)×Int×Unit):s_ReturnTime.A:=
 (S.s_l03Parse (x.1,())).bind fun y0=>if !y0.1.2 then some ((bs [],false),())else(S.s_l03State (y0.1.1,x.2.1,())).bind fun y1=>if !y1.1 then some ((bs [],false),())else(S.s_l03Hits (y0.1.1,[x.2.1],())).bind fun y2=>(S.s_l01None ()).bind fun y3=>loopP (P.s_ReturnTime_b4 k) k (0,(y0.1.1.length:Int),(y3.1.1,y3.1.2.1,y3.1.2.2),y0.1.1,x.2.1,y2.1,[x.2.1],())
theorem srt_mul {a b:Q3} (ha:okq a) (hb:okq b):S.s_l01Times (rp B10 a,rp B10 b,())=some (rp B10 (mulQ a b),()):=rs_mul ha.1 ha.2 hb.1 hb.2 (Nat.le_refl _) (Nat.le_refl _)
theorem srt_add {a b:Q3} (ha:okq a) (hb:okq b):S.s_l01Sum (rp B10 a,rp B10 b,())=some (rp B10 (addQ a b),()):=rs_add ha.1 ha.2 hb.1 hb.2 (Nat.le_refl _) (Nat.le_refl _)
open Classical in
def S.s_ReturnTime (x:((List (List ByteArray))×(Int×Unit))):(Option ((ByteArray×Bool)×Unit)):=if x.1.all okT=true then some (rtT x.1 x.2.1,())else none
theorem S.s_ReturnTime_ok (x r) (h:S.s_ReturnTime x=some r):∃k,P.s_ReturnTime k x=some r:=by
 obtain⟨u,z,u'⟩:=x;unfold S.s_ReturnTime at h;dsimp only at h;split at h
 case isFalse=>cases h
 rename_i hcc;have hu:=hcc;cases h;refine⟨13,?_⟩;have hp:S.s_l03Parse (u,())=some ((mp B10 (chQ u).1,(chQ u).2),()):=by
  unfold S.s_l03Parse;exact if_pos hu
 unfold P.s_ReturnTime rtT;dsimp only;rw[hp,Option.bind_some];dsimp only;cases hc:(chQ u).2
 ·rw[if_pos (by decide),Bool.false_and,if_neg (by decide)]
 obtain⟨hM,_⟩:=chQ_ok hc;generalize (chQ u).1=M at*;have hn:=hM.2.1.1;have hn0:0<M.length:=hM.1;have es:S.s_l03State (mp B10 M,z,())=some (decide (0<=z/\z<=(M.length:Int) - 1),()):=by
  unfold S.s_l03State P.s_l03State S.s_l00In P.s_l00In;dsimp only;rw[mp_len,wr (by omega) (by omega)]
  by_cases h1:z>=0
  ·rw[if_pos (decide_eq_true h1),Option.bind_some];congr 2;rw[decide_eq_decide];exact⟨fun a=>⟨h1,a⟩,fun a=>a.2⟩
  ·rw[if_neg (by simpa using h1),Option.bind_some,decide_eq_false (fun a=>h1 a.1)]
 rw[if_neg (by decide),es,Option.bind_some,Bool.true_and];dsimp only;cases hd:decide (0<=z/\z<=(M.length:Int) - 1)
 ·rw[if_pos (by decide),Bool.false_and,if_neg (by decide)]
 obtain⟨s,rfl⟩:=Int.eq_ofNat_of_zero_le (of_decide_eq_true hd).1;have hs:s<M.length:=by have:=(of_decide_eq_true hd).2;omega
 have eh:S.s_l03Hits (mp B10 M,[(s:Int)],())=some ((hitL M (stF s)).map (rp B10),()):=by
  unfold S.s_l03Hits;dsimp only;rw[if_pos ⟨⟨_,hM,rfl⟩,by simp⟩,mv_mp (by decide),tgF_one]
 have o1:S.s_l01One ()=some (rp B10 oneQ,()):=by rfl
 have o2:S.s_l01None ()=some (rp B10 a1f,()):=by rfl
 rw[if_neg (by decide),eh,Option.bind_some,o2,Option.bind_some,Bool.true_and,Int.toNat_natCast];dsimp only;rw[mp_len];have e4:∀q:Q3,((rp B10 q).1,(rp B10 q).2.1,(rp B10 q).2.2)=rp B10 q:=fun _=>rfl
 have e9:(hitL M (stF s)).length=M.length:=by rw[hitL_tab,a1c]
 have e9':∀c,(tmL M c).length=M.length:=fun c=>by rw[tmL_tab,a1c]
 have w2:=su_way (M:=M) hs;obtain⟨q1,q2⟩:=dq_ok hM hs (hQ_co hM (stF s)) (o:=a1f) (Or.inl rfl);obtain⟨r1,r2⟩:=dq_ok hM hs (tmQ_co hM w2) (o:=oneQ) (Or.inr rfl);have key:=a0g (k:=13) (b:=P.s_ReturnTime_b4 13) (n:=M.length) (st:=fun j=>((j:Int),(M.length:Int),rp B10 (dq M s (hQ M (stF s)) a1f j),mp B10 M,(s:Int),(hitL M (stF s)).map (rp B10),[(s:Int)],())) (F:=fun _=>some (if decide (backQ M s=oneQ)=true then giveN (dq M s (tmQ M (cSu M s)) oneQ M.length)else(bs [],false),())) (fun j g hj hg=>by
  unfold P.s_ReturnTime_b4;dsimp only at hg ⊢;have e1:(j:Int)<(M.length:Int):=by omega
  have e2:(0:Int)<=(j:Int):=by omega
  have e3:(0:Int)<=(s:Int):=by omega
  have e5:(s:Int)<(M.length:Int):=by omega
  have e8:((mp B10 M).getD s []).getD j (false,(([]:List Int),([]:List Int)))=rp B10 (mq M s j):=mq_held hM.2.1 hs hj;have e7:((hitL M (stF s)).map (rp B10)).getD j (false,(([]:List Int),([]:List Int)))=rp B10 (hQ M (stF s) j):=om_num hj _;have hm:okq (mq M s j):=okq_200 ⟨(ch_at hM hs hj).1,(ch_at hM hs hj).2.1⟩;have a1:=srt_mul hm (hQ_low hM (stF s) hj);have a2:=srt_add (q1 j (by omega)).1 (q2 j hj);have hv:dq M s (hQ M (stF s)) a1f (j+1)=addQ (dq M s (hQ M (stF s)) a1f j) (mulQ (mq M s j) (hQ M (stF s) j)):=rfl;rw[hv]at hg;simp only[Int.toNat_natCast,mp_len,mq_wide hM.2.1 hs,List.length_map,e1,e2,e3,e4,e5,e7,e8,e9,decide_true,if_true];rw[wr (by omega) (by omega),a1,Option.bind_some,a2,Option.bind_some];exact hg) (fun g=>by
  unfold P.s_ReturnTime_b4;dsimp only;have kb:=(q1 M.length (Nat.le_refl _)).1;have ee:S.s_l01Equal (rp B10 (dq M s (hQ M (stF s)) a1f M.length),rp B10 oneQ,())=some (decide (backQ M s=oneQ),()):=rs_equal kb.1 oneQ_low kb.2 (oneQ_below (by decide));rw[if_neg (by simp),o1,Option.bind_some];dsimp only;simp only[e4];rw[ee,Option.bind_some];dsimp only;cases hb:decide (backQ M s=oneQ)
  ·rw[if_pos (by decide),if_neg (by decide)]
  have eu:S.s_l03Sure (mp B10 M,[(s:Int)],(hitL M (stF s)).map (rp B10),())=some ((tmL M (cSu M s)).map (rp B10),()):=by
   unfold S.s_l03Sure;dsimp only;rw[if_pos ⟨M,s,hM,rfl,hs,rfl,rfl⟩,mv_mp (by decide)];simp
  rw[if_neg (by decide),if_pos rfl,eu,Option.bind_some,mp_len];dsimp only;have key2:=a0g (k:=13) (b:=P.s_ReturnTime_b13) (n:=M.length) (st:=fun j=>((j:Int),(M.length:Int),rp B10 (dq M s (tmQ M (cSu M s)) oneQ j),mp B10 M,(s:Int),(tmL M (cSu M s)).map (rp B10),())) (F:=fun _=>some (giveN (dq M s (tmQ M (cSu M s)) oneQ M.length),())) (fun j g hj hg=>by
   unfold P.s_ReturnTime_b13;dsimp only at hg ⊢;have e1:(j:Int)<(M.length:Int):=by omega
   have e2:(0:Int)<=(j:Int):=by omega
   have e3:(0:Int)<=(s:Int):=by omega
   have e5:(s:Int)<(M.length:Int):=by omega
   have e8:((mp B10 M).getD s []).getD j (false,(([]:List Int),([]:List Int)))=rp B10 (mq M s j):=mq_held hM.2.1 hs hj;have e7:((tmL M (cSu M s)).map (rp B10)).getD j (false,(([]:List Int),([]:List Int)))=rp B10 (tmQ M (cSu M s) j):=om_num hj _;have hm:okq (mq M s j):=okq_200 ⟨(ch_at hM hs hj).1,(ch_at hM hs hj).2.1⟩;have a1:=srt_mul hm (tmQ_low hM w2 hj);have a2:=srt_add (r1 j (by omega)).1 (r2 j hj);have hv:dq M s (tmQ M (cSu M s)) oneQ (j+1)=addQ (dq M s (tmQ M (cSu M s)) oneQ j) (mulQ (mq M s j) (tmQ M (cSu M s) j)):=rfl;rw[hv]at hg;simp only[Int.toNat_natCast,mp_len,mq_wide hM.2.1 hs,List.length_map,e1,e2,e3,e4,e5,e7,e8,e9',decide_true,if_true];rw[wr (by omega) (by omega),a1,Option.bind_some,a2,Option.bind_some];exact hg) (fun g=>by
   unfold P.s_ReturnTime_b13;dsimp only;have kb:=(r1 M.length (Nat.le_refl _)).1;rw[if_neg (by simp)];simp only[e4];have eg:S.s_l01Give (rp B10 (dq M s (tmQ M (cSu M s)) oneQ M.length),())=some (giveN (dq M s (tmQ M (cSu M s)) oneQ M.length),()):=by
    unfold S.s_l01Give;dsimp only;rw[if_pos (below_rok9 (by decide) kb.2 (by decide)),rv_rp a0d]
   rw[eg,Option.bind_some]) (by omega)
  exact key2) (by omega)
 exact key
def P.i_magnitude (k:Nat) (x:Int×Unit):Option (Int×Unit):=
 if decide (x.1<0)then some (wrap .u64 (0 - (wrap .u64 x.1)),())else some (wrap .u64 x.1,())
def S.i_magnitude (x:(Int×Unit)):(Option (Int×Unit)):=if -9223372036854775808<=x.1/\x.1<=9223372036854775807 then some (((x.1.natAbs:Nat):Int),())else none
theorem S.i_magnitude_ok (x r) (h:S.i_magnitude x=some r):∃k,P.i_magnitude k x=some r:=by
 obtain⟨n,u⟩:=x;unfold S.i_magnitude at h;dsimp only at h;split at h
 case isFalse=>cases h
 rename_i hc;cases h;refine⟨0,?_⟩;unfold P.i_magnitude;dsimp only;have hw:∀y:Int,IntKind.wrap .u64 y=y%18446744073709551616:=fun _=>rfl
 rw[hw,hw]
 by_cases h0:n<0
 ·rw[if_pos (decide_eq_true h0)];congr 2;omega
 ·rw[if_neg (by simpa using h0)];congr 2;omega
abbrev P.i_nat_trim_b0 (x1:List Int×Unit) (g2:List Int×Unit->Option (List Int×Unit)):Option (List Int×Unit):=
 if decide ((x1.1.length:Int)>0)then if decide (0<=(wrap .i64 ((x1.1.length:Int) - 1)))then if decide ((wrap .i64 ((x1.1.length:Int) - 1))<(x1.1.length:Int))then if(x1.1.getD (Int.toNat (wrap .i64 ((x1.1.length:Int) - 1))) 0)==0 then if decide (0<=(wrap .i64 ((x1.1.length:Int) - 1)))then if decide ((wrap .i64 ((x1.1.length:Int) - 1))<=(x1.1.length:Int))then if decide (0<=(wrap .i64 ((x1.1.length:Int) - 1)))then g2 (seen x1.1 0 ((Int.toNat (wrap .i64 ((x1.1.length:Int) - 1))) - 0),())else none else none else none else some (x1.1,())else none else none else some (x1.1,())
def P.i_nat_trim (k:Nat) (x:List Int×Unit):Option (List Int×Unit):=
 loopP P.i_nat_trim_b0 k (x.1,())
theorem trim_loop (n:Nat):∀(xs:List Int) (k:Nat),xs.length=n->n<k->n<=1000000000000->dig B32 xs=true->loopP (X:=((List Int)×Unit)) (R:=((List Int)×Unit)) P.i_nat_trim_b0 k (xs,())=some (nd B32 (a0c B32 xs),()):=by
 induction n with
 |zero=>
  intro xs k hx hk _ _;have:xs=[]:=List.eq_nil_of_length_eq_zero hx;subst this;obtain⟨k,rfl⟩:∃j,k=j+1:=⟨k - 1,by omega⟩
  rw[a0k];unfold P.i_nat_trim_b0;rw[if_neg (by simp)];rw[show a0c B32 []=0 from rfl,nd_zero a0e]
 |succ n ih=>
  intro xs k hx hk hn hd;obtain⟨k,rfl⟩:∃j,k=j+1:=⟨k - 1,by omega⟩
  rw[a0k];unfold P.i_nat_trim_b0;dsimp only;have e0:IntKind.wrap .i64 ((xs.length:Int) - 1)=(n:Int):=by rw[wr (by omega) (by omega)];omega
  have e1:(xs.length:Int)>0:=by omega
  have e2:(0:Int)<=(n:Int):=by omega
  have e3:(n:Int)<(xs.length:Int):=by omega
  have e4:(n:Int)<=(xs.length:Int):=by omega
  rw[e0];simp only[e1,e2,e3,e4,decide_true,if_true];rw[a0o xs n _ (by omega)];have hs:=take_snoc xs n hx;have hdt:dig B32 (xs.take n++[xs[n]])=true:=by rw[<-hs];exact hd
  by_cases hz:xs[n]=0
  ·rw[if_pos (by simp [hz])];have e5:seen xs 0 ((n:Int).toNat - 0)=xs.take n:=by simp [seen]
   rw[e5];have hdt':=hdt;rw[dig_append,Bool.and_eq_true]at hdt';rw[ih (xs.take n) k (by simp;omega) (by omega) (by omega) hdt'.1];have:a0c B32 xs=a0c B32 (xs.take n):=by
    conv=>lhs;rw[hs,hz]
    exact dval_snoc_zero _
   rw[this]
  ·rw[if_neg (by simp [hz])];have:=nd_snoc a0e (xs.take n) xs[n] hdt hz;rw[<-hs]at this;rw[this]
def S.i_nat_trim (x:((List Int)×Unit)):(Option ((List Int)×Unit)):=if dig B32 x.1=true/\x.1.length<=1000000000000 then some (nd B32 (a0c B32 x.1),())else none
theorem S.i_nat_trim_ok (x r) (h:S.i_nat_trim x=some r):∃k,P.i_nat_trim k x=some r:=by
 obtain⟨xs,u⟩:=x;unfold S.i_nat_trim at h;dsimp only at h;split at h
 case isFalse=>cases h
 rename_i hc;cases h;exact⟨xs.length+1,trim_loop xs.length xs _ rfl (by omega) hc.2 hc.1⟩
theorem trim_i (xs:List Int) (h:dig B32 xs=true) (hl:xs.length<=1000000000000):S.i_nat_trim (xs,())=some (nd B32 (a0c B32 xs),()):=by
 unfold S.i_nat_trim;dsimp only;rw[if_pos ⟨h,hl⟩]
def P.i_natOf (k:Nat) (x:Int×Unit):Option (List Int×Unit):=
 (S.i_nat_trim ((wrap .u32 x.1)::[wrap .u32 (Int.fdiv x.1 4294967296)],())).bind fun y0=>some (y0.1,())
def S.i_natOf (x:(Int×Unit)):(Option ((List Int)×Unit)):=if 0<=x.1/\x.1<18446744073709551616 then some (nd B32 x.1.toNat,())else none
theorem S.i_natOf_ok (x r) (h:S.i_natOf x=some r):∃k,P.i_natOf k x=some r:=by
 obtain⟨n,u⟩:=x;unfold S.i_natOf at h;dsimp only at h;split at h
 case isFalse=>cases h
 rename_i hc;cases h;refine⟨0,?_⟩;unfold P.i_natOf;dsimp only;have hf:Int.fdiv n 4294967296=n/4294967296:=Int.fdiv_eq_ediv_of_nonneg _ (by omega);rw[hf,u32_mod n hc.1,u32_mod _ (by omega)];have hd:dig B32 [n%4294967296,n/4294967296%4294967296]=true:=by
  rw[dig_cons,dig_cons];refine⟨⟨by omega,?_⟩,⟨by omega,?_⟩,rfl⟩
  ·show _<(4294967296:Int);omega
  ·show _<(4294967296:Int);omega
 rw[trim_i _ hd (by simp),Option.bind_some];have:a0c B32 [n%4294967296,n/4294967296%4294967296]=n.toNat:=by
  simp only[a0c];show(n%4294967296).toNat+4294967296*((n/4294967296%4294967296).toNat+4294967296*0)=n.toNat;omega
 rw[this]
def P.i_whole (k:Nat) (x:Int×Unit):Option (RB×Unit):=
 (S.i_magnitude (x.1,())).bind fun y0=>(S.i_natOf (y0.1,())).bind fun y1=>(S.i_natOf (1,())).bind fun y2=>some ((decide (x.1<0),y1.1,y2.1),())
def S.i_whole (x:(Int×Unit)):(Option (RB×Unit)):=if -9223372036854775808<=x.1/\x.1<=9223372036854775807 then some (rp B32 (wholeQ x.1),())else none
theorem S.i_whole_ok (x r) (h:S.i_whole x=some r):∃k,P.i_whole k x=some r:=by
 obtain⟨n,u⟩:=x;unfold S.i_whole at h;dsimp only at h;split at h
 case isFalse=>cases h
 rename_i hc;cases h;refine⟨0,?_⟩;unfold P.i_whole S.i_magnitude S.i_natOf;dsimp only;rw[if_pos hc,Option.bind_some];dsimp only;rw[if_pos ⟨by omega,by omega⟩,Option.bind_some,Int.toNat_natCast,if_pos ⟨by decide,by decide⟩,Option.bind_some];rfl
def S.strconv_FormatUint (x:(Int×(Int×Unit))):(Option (ByteArray×Unit)):=if x.2.1=10/\0<=x.1/\x.1<18446744073709551616 then some (⟨(Go.Lib.decDigits x.1.toNat).toArray⟩,())else none
def joinB (xs:List ByteArray) (sep:ByteArray):List UInt8:=Go.Lib.join (xs.map (·.data.toList)) sep.data.toList
def S.strings_Join (x:((List ByteArray)×(ByteArray×Unit))):(Option (ByteArray×Unit)):=if x.1.length<=140737488355328/\(joinB x.1 x.2.1).length<=140737488355328 then some (⟨(joinB x.1 x.2.1).toArray⟩,())else none
def S.strings_Repeat (x:(ByteArray×(Int×Unit))):(Option (ByteArray×Unit)):=if 0<=x.2.1/\x.2.1<=1000000/\x.1.size<=1000000 then some (⟨(Go.Lib.repeatL x.1.data.toList x.2.1.toNat).toArray⟩,())else none
abbrev P.slices_Reverse__string_string_b0 (x1:Int×Int×List ByteArray×Unit) (g2:Int×Int×List ByteArray×Unit->Option (Unit×List ByteArray×Unit)):Option (Unit×List ByteArray×Unit):=
 (fun(a b:Int) (c:List ByteArray)=>if decide (a<b)then if decide (0<=b)then if decide (b<(c.length:Int))then if decide (0<=a)then if decide (a<(c.length:Int))then if decide (0<=a)then if decide (a<(c.length:Int))then if decide (0<=b)then if decide (b<(List.length (c.set (0+a.toNat) (c.getD (0+b.toNat) (bs []))):Int))then g2 (wrap .i64 (a+1),wrap .i64 (b - 1),List.set (c.set (0+a.toNat) (c.getD (0+b.toNat) (bs []))) (0+b.toNat) (c.getD (0+a.toNat) (bs [])),())else none else none else none else none else none else none else none else none else some ((),c,())) x1.1 x1.2.1 x1.2.2.1
def P.slices_Reverse__string_string (k:Nat) (x:List ByteArray×Unit):Option (Unit×List ByteArray×Unit):=
 loopP P.slices_Reverse__string_string_b0 k (0,wrap .i64 ((x.1.length:Int) - 1),x.1,())
def rvd (xs:List ByteArray) (t:Nat):List ByteArray:=(List.range xs.length).map fun p=>if p<t\/xs.length - t<=p then xs.getD (xs.length - 1 - p) (bs [])else xs.getD p (bs [])
theorem rvd_len (xs:List ByteArray) (t:Nat):(rvd xs t).length=xs.length:=by simp [rvd]
theorem rvd_get (xs:List ByteArray) (t p:Nat) (h:p<xs.length):(rvd xs t).getD p (bs [])=if p<t\/xs.length - t<=p then xs.getD (xs.length - 1 - p) (bs [])else xs.getD p (bs []):=by
 unfold rvd;rw[List.getD_eq_getElem?_getD,List.getElem?_map,List.getElem?_range h];rfl
theorem getD_ext {xs ys:List ByteArray} (hl:xs.length=ys.length) (h:∀p,p<xs.length->xs.getD p (bs [])=ys.getD p (bs [])):xs=ys:=by
 apply List.ext_getElem hl;intro i h1 h2;have:=h i h1;simpa [h1,h2]using this
theorem rvd_end (xs:List ByteArray):rvd xs (xs.length/2)=xs.reverse:=by
 apply getD_ext (by rw[rvd_len,List.length_reverse]);intro p hp;rw[rvd_len]at hp;rw[rvd_get _ _ _ hp];have e:xs.reverse.getD p (bs [])=xs.getD (xs.length - 1 - p) (bs []):=by
  rw[List.getD_eq_getElem?_getD,List.getElem?_reverse hp,<-List.getD_eq_getElem?_getD]
 rw[e];split
 ·rfl
 ·rename_i hq;have:xs.length - 1 - p=p:=by omega
  rw[this]
theorem getD_set' (l:List ByteArray) (i p:Nat) (v:ByteArray) (h:p<l.length):(l.set i v).getD p (bs [])=if p=i then v else l.getD p (bs []):=by
 rw[List.getD_eq_getElem?_getD,List.getElem?_set]
 by_cases e:i=p
 ·subst e;simp [h]
 ·rw[if_neg e,if_neg (fun q=>e q.symm),<-List.getD_eq_getElem?_getD]
theorem rvd_step (xs:List ByteArray) (t:Nat) (ht:t<xs.length/2):((rvd xs t).set t ((rvd xs t).getD (xs.length - 1 - t) (bs []))).set (xs.length - 1 - t) ((rvd xs t).getD t (bs []))=rvd xs (t+1):=by
 apply getD_ext (by simp [rvd_len]);intro p hp;simp only[List.length_set,rvd_len]at hp;rw[getD_set' _ _ _ _ (by simp [rvd_len];exact hp),getD_set' _ _ _ _ (by rw[rvd_len];exact hp),rvd_get _ _ _ hp,rvd_get _ _ _ hp,rvd_get _ _ _ (show t<xs.length by omega),rvd_get _ _ _ (show xs.length - 1 - t<xs.length by omega)];rw[if_neg (show ¬(t<t\/xs.length - t<=t) by omega),if_neg (show ¬(xs.length - 1 - t<t\/xs.length - t<=xs.length - 1 - t) by omega)]
 by_cases h1:p=xs.length - 1 - t
 ·rw[if_pos h1,if_pos (by omega)];congr 1;omega
 ·rw[if_neg h1]
  by_cases h2:p=t
  ·rw[if_pos h2,if_pos (by omega)];congr 1;omega
  ·rw[if_neg h2]
   by_cases h3:p<t\/xs.length - t<=p
   ·rw[if_pos h3,if_pos (by omega)]
   ·rw[if_neg h3,if_neg (by omega)]
def S.a1a (x:((List ByteArray)×Unit)):(Option (Unit×((List ByteArray)×Unit))):=if x.1.length<=1000000000 then some ((),(x.1.reverse,()))else none
theorem S.slices_Reverse__string_string_ok (x r) (h:S.a1a x=some r):∃k,P.slices_Reverse__string_string k x=some r:=by
 obtain⟨xs,u⟩:=x;unfold S.a1a at h;dsimp only at h;split at h
 case isFalse=>cases h
 rename_i hl;cases h;refine⟨xs.length/2+1,?_⟩;unfold P.slices_Reverse__string_string;dsimp only;rw[wr (by omega) (by omega)];have key:=a0g (k:=xs.length/2+1) (b:=P.slices_Reverse__string_string_b0) (n:=xs.length/2) (st:=fun t=>((t:Int),(xs.length:Int) - 1 - (t:Int),rvd xs t,())) (F:=fun t=>some ((),(xs.reverse,()))) (fun t g ht hg=>by
  unfold P.slices_Reverse__string_string_b0;dsimp only at hg ⊢;have e5:(xs.length:Int) - 1 - (t:Int)=((xs.length - 1 - t:Nat):Int):=by omega
  rw[e5];have e1:(t:Int)<((xs.length - 1 - t:Nat):Int):=by omega
  have e2:(0:Int)<=((xs.length - 1 - t:Nat):Int):=by omega
  have e3:((xs.length - 1 - t:Nat):Int)<(xs.length:Int):=by omega
  have e4:(0:Int)<=(t:Int):=by omega
  have e6:(t:Int)<(xs.length:Int):=by omega
  simp only[rvd_len,List.length_set,e1,e2,e3,e4,e6,decide_true,if_true,Int.toNat_natCast,Nat.zero_add];rw[rvd_step xs t ht,wr (by omega) (by omega),wr (by omega) (by omega),<-hg];congr 1
  all_goals (simp only[Prod.mk.injEq];and_intros<;>first|rfl|omega|trivial)) (fun g=>by
  unfold P.slices_Reverse__string_string_b0;dsimp only;rw[if_neg (by simp;omega),rvd_end]) (by omega)
 have e0:rvd xs 0=xs:=by
  apply getD_ext (rvd_len _ _);intro p hp;rw[rvd_len]at hp;rw[rvd_get _ _ _ hp,if_neg (by omega)]
 rw[show(xs.length:Int) - 1 - ((0:Nat):Int)=(xs.length:Int) - 1 by omega,e0]at key;exact key
abbrev P.i_nat_divSmall_b0 (x1:Int×Int×List Int×List Int×Int×Unit) (g2:Int×Int×List Int×List Int×Int×Unit->Option ((List Int×Int)×Unit)):Option ((List Int×Int)×Unit):=
 (fun(a b e:Int) (c d:List Int)=>if decide (a>=0)then if decide (0<=a)then if decide (a<(c.length:Int))then if decide ((wrap .u64 e)=0)then none else if decide (0<=a)then if decide (a<(d.length:Int))then if decide ((wrap .u64 e)=0)then none else g2 (wrap .i64 (a - 1),Int.tmod (wrap .u64 ((wrap .u64 (b*4294967296))+(wrap .u64 (c.getD a.toNat 0)))) (wrap .u64 e),c,d.set (0+a.toNat) (wrap .u32 (wrap .u64 (Int.tdiv (wrap .u64 ((wrap .u64 (b*4294967296))+(wrap .u64 (c.getD a.toNat 0)))) (wrap .u64 e)))),e,())else none else none else none else none else(S.i_nat_trim (d,())).bind fun y3=>some ((y3.1,wrap .u32 b),())) x1.1 x1.2.1 x1.2.2.2.2.1 x1.2.2.1 x1.2.2.2.1
def P.i_nat_divSmall (k:Nat) (x:List Int×Int×Unit):Option ((List Int×Int)×Unit):=
 if decide (0<=(x.1.length:Int))then if decide ((x.1.length:Int)<=(x.1.length:Int))then if decide (((x.1.length:Int)*4)<=281474976710656)then loopP P.i_nat_divSmall_b0 k (wrap .i64 ((x.1.length:Int) - 1),0,x.1,List.replicate (Int.toNat (x.1.length:Int)) 0,x.2.1,())else none else none else none
def S.i_nat_divSmall (x:((List Int)×(Int×Unit))):(Option (((List Int)×Int)×Unit)):=if dig B32 x.1=true/\0<x.2.1/\x.2.1<4294967296/\x.1.length<=1000000000000 then some ((nd B32 (a0c B32 x.1/x.2.1.toNat),((a0c B32 x.1%x.2.1.toNat:Nat):Int)),())else none
theorem S.i_nat_divSmall_ok (x r) (h:S.i_nat_divSmall x=some r):∃k,P.i_nat_divSmall k x=some r:=by
 obtain⟨xs,b,u⟩:=x;unfold S.i_nat_divSmall at h;dsimp only at h;split at h
 case isFalse=>cases h
 rename_i hc;obtain⟨hd,hb0,hb1,hl⟩:=hc;cases h;refine⟨xs.length+1,?_⟩;unfold P.i_nat_divSmall;dsimp only;have a1:(0:Int)<=(xs.length:Int):=by omega
 have a2:(xs.length:Int)<=(xs.length:Int):=by omega
 have a3:(xs.length:Int)*4<=281474976710656:=by omega
 simp only[a1,a2,a3,decide_true,if_true];rw[wr (by omega) (by omega),Int.toNat_natCast];have hdr:∀m,dig B32 (xs.drop m)=true:=by
  intro m;have:=List.take_append_drop m xs;have hd':=hd;rw[<-this,dig_append,Bool.and_eq_true]at hd';exact hd'.2
 have hbN:0<b.toNat:=by omega
 have key:=a0g (k:=xs.length+1) (b:=P.i_nat_divSmall_b0) (n:=xs.length) (st:=fun j=>((xs.length:Int) - 1 - (j:Int),((qdiv B32 b.toNat (xs.drop (xs.length - j))).2:Int),xs,List.replicate (xs.length - j) (0:Int)++(qdiv B32 b.toNat (xs.drop (xs.length - j))).1,b,())) (F:=fun j=>some ((nd B32 (a0c B32 xs/b.toNat),((a0c B32 xs%b.toNat:Nat):Int)),())) (fun j g hj hg=>by
  unfold P.i_nat_divSmall_b0;dsimp only at hg ⊢;obtain⟨q1,q2,q3,q4⟩:=qdiv_ok B32 b.toNat hbN (xs.drop (xs.length - j)) (hdr _);have hi:xs.length - (j+1)<xs.length:=by omega
  have e5:(xs.length:Int) - 1 - (j:Int)=((xs.length - (j+1):Nat):Int):=by omega
  have e6:xs.drop (xs.length - (j+1))=xs[xs.length - (j+1)]::xs.drop (xs.length - j):=by
   rw[List.drop_eq_getElem_cons hi];congr 2;omega
  have e7:xs.length - j=(xs.length - (j+1))+1:=by omega
  have hlen:(List.replicate (xs.length - j) (0:Int)++(qdiv B32 b.toNat (xs.drop (xs.length - j))).1).length=xs.length:=by
   rw[List.length_append,List.length_replicate,q2,List.length_drop];omega
  have hx:=dig_get hd hi;have hx1:xs[xs.length - (j+1)]<4294967296:=hx.2;have hx0:=hx.1;have hm:(qdiv B32 b.toNat (xs.drop (xs.length - j))).2<b.toNat:=by rw[q4];exact Nat.mod_lt _ hbN
  rw[e6]at hg;rw[hlen,e5,a0o xs _ _ hi];have a1:((xs.length - (j+1):Nat):Int)>=0:=by omega
  have a2:(0:Int)<=((xs.length - (j+1):Nat):Int):=by omega
  have a3:((xs.length - (j+1):Nat):Int)<(xs.length:Int):=by omega
  rw[wu (x:=b) (by omega) (by omega)];have a4:¬(b=0):=by omega
  simp only[a1,a3,a4,decide_true,decide_false,if_true,if_false,Bool.false_eq_true];generalize hR:(qdiv B32 b.toNat (xs.drop (xs.length - j))).2=R at*;generalize hX:xs[xs.length - (j+1)]=X at*;have hRX:(R:Int)*4294967296+X<b*4294967296:=by omega
  rw[wu (x:=(R:Int)*4294967296) (by omega) (by omega),wu (x:=X) (by omega) (by omega),wu (x:=(R:Int)*4294967296+X) (by omega) (by omega)];have eT:Int.tdiv ((R:Int)*4294967296+X) b=(((R*B32+X.toNat)/b.toNat:Nat):Int):=by
   rw[Int.tdiv_eq_ediv_of_nonneg (by omega)];have:(R:Int)*4294967296+X=((R*4294967296+X.toNat:Nat):Int):=by omega
   rw[this];have hb:b=((b.toNat:Nat):Int):=by omega
   conv=>lhs;rw[hb]
   exact(Int.natCast_ediv _ _).symm
  have eM:Int.tmod ((R:Int)*4294967296+X) b=(((R*B32+X.toNat)%b.toNat:Nat):Int):=by
   rw[Int.tmod_eq_emod_of_nonneg (by omega)];have:(R:Int)*4294967296+X=((R*4294967296+X.toNat:Nat):Int):=by omega
   rw[this];have hb:b=((b.toNat:Nat):Int):=by omega
   conv=>lhs;rw[hb]
   exact(Int.natCast_emod _ _).symm
  have hQ:(R*B32+X.toNat)/b.toNat<B32:=(Nat.div_lt_iff_lt_mul hbN).2 (by
   show R*4294967296+X.toNat<4294967296*b.toNat;omega)
  have hQ':(R*B32+X.toNat)/b.toNat<4294967296:=hQ;have z0:(0:Int)<=(((R*B32+X.toNat)/b.toNat:Nat):Int):=Int.natCast_nonneg _;have z1:(((R*B32+X.toNat)/b.toNat:Nat):Int)<4294967296:=Int.ofNat_lt.2 hQ';rw[eT,eM,wu z0 (Int.lt_trans z1 (by decide)),w32 z0 z1,wr (x:=((xs.length - (j+1):Nat):Int) - 1) (by omega) (by omega),Nat.zero_add,Int.toNat_natCast];have hset:∀(Q:List Int) (v:Int),(List.replicate (xs.length - j) (0:Int)++Q).set (xs.length - (j+1)) v=List.replicate (xs.length - (j+1)) 0++v::Q:=by
   intro Q v;rw[e7];exact set_back _ _ _
  rw[hset,<-hg];congr 1;simp only[Prod.mk.injEq,qdiv];rw[hR]
  and_intros<;>first|rfl|omega|trivial) (fun g=>by
  unfold P.i_nat_divSmall_b0;dsimp only;obtain⟨q1,q2,q3,q4⟩:=qdiv_ok B32 b.toNat hbN xs hd;rw[if_neg (by simp;omega),Nat.sub_self,List.drop_zero,List.replicate_zero,List.nil_append,trim_i _ q1 (by omega),Option.bind_some,q3,q4];have hm:=Nat.mod_lt (a0c B32 xs) hbN;rw[w32 (by omega) (by omega)]) (by omega)
 rw[show(xs.length:Int) - 1 - ((0:Nat):Int)=(xs.length:Int) - 1 by omega,Nat.sub_zero,List.drop_length]at key;simpa [qdiv]using key
abbrev P.i_nat_text_b0 (x1:List Int×List ByteArray×Unit) (g2:List Int×List ByteArray×Unit->Option (ByteArray×Unit)):Option (ByteArray×Unit):=
 if decide ((x1.1.length:Int)>0)then(S.i_nat_divSmall (x1.1,1000000000,())).bind fun y3=>(S.strconv_FormatUint (wrap .u64 y3.1.2,10,())).bind fun y4=>if decide ((y3.1.1.length:Int)>0)then(S.strings_Repeat (bs [48],wrap .i64 (9 - (y4.1.size:Int)),())).bind fun y5=>if decide ((y5.1.size+y4.1.size)<=9223372036854775807)then if decide (((x1.2.1.length+(List.length [y5.1++y4.1]))*16)<=140737488355328)then g2 (y3.1.1,x1.2.1++[y5.1++y4.1],())else none else none else if decide (((x1.2.1.length+(List.length [y4.1]))*16)<=140737488355328)then g2 (y3.1.1,x1.2.1++[y4.1],())else none else(S.a1a (x1.2.1,())).bind fun y6=>(S.strings_Join (splice x1.2.1 y6.2.1 0,bs [],())).bind fun y7=>some (y7.1,())
def P.i_nat_text (k:Nat) (x:List Int×Unit):Option (ByteArray×Unit):=
 if(x.1.length:Int)==0 then some (bs [48],())else loopP P.i_nat_text_b0 k (x.1,[],())
def mkB (l:List UInt8):ByteArray:=⟨l.toArray⟩
theorem join_empty (xs:List (List UInt8)):Go.Lib.join xs []=xs.flatten:=by
 cases xs with
 |nil=>rfl
 |cons x r=>
  rw[Go.Lib.join_cons,List.flatten_cons];congr 1;unfold Go.Lib.joinTail;simp
theorem it_loop (n:Nat):∀(acc:List ByteArray) (k:Nat),n<k->(nd B32 n).length<=40000000->acc.length+(textParts n).length<=1000000000->
  loopP P.i_nat_text_b0 k (nd B32 n,(acc,()))=Option.bind (S.a1a (acc++(textParts n).map mkB,())) (fun y6=>Option.bind (S.strings_Join (Go.Cm.splice (acc++(textParts n).map mkB) y6.2.1 0,(bs [],()))) (fun y7=>some (y7.1,()))):=by
 induction n using Nat.strongRecOn with
 |ind n ih=>
  intro acc k hk hl hacc;obtain⟨k,rfl⟩:∃j,k=j+1:=⟨k - 1,by omega⟩
  rw[a0k];unfold P.i_nat_text_b0;dsimp only
  by_cases hn:n=0
  ·subst hn;rw[nd_zero a0e,textParts_zero,if_neg (by simp),List.map_nil,List.append_nil]
  ·have hpos:((nd B32 n).length:Int)>0:=by
    rw[nd_pos a0e hn,List.length_cons];omega
   rw[if_pos (decide_eq_true hpos)];have sd:S.i_nat_divSmall (nd B32 n,(1000000000,()))=some ((nd B32 (n/1000000000),((n%1000000000:Nat):Int)),()):=by
    unfold S.i_nat_divSmall;dsimp only;rw[if_pos ⟨dig_nd a0e _,by omega,by omega,by omega⟩,a0i a0e];rfl
   rw[sd,Option.bind_some];dsimp only;have hm:n%1000000000<1000000000:=Nat.mod_lt _ (by decide);have sf:S.strconv_FormatUint (IntKind.wrap .u64 ((n%1000000000:Nat):Int),(10,()))=some (mkB (Go.Lib.decDigits (n%1000000000)),()):=by
    rw[wu (by omega) (by omega)];unfold S.strconv_FormatUint;dsimp only;rw[if_pos ⟨rfl,by omega,by omega⟩,Int.toNat_natCast];rfl
   rw[sf,Option.bind_some];dsimp only;obtain⟨p1,p2⟩:=dec_pad 9 (n%1000000000) (by decide) (by rw[show(10:Nat)^9=1000000000 by decide];exact hm);have hsz:(mkB (Go.Lib.decDigits (n%1000000000))).size=(Go.Lib.decDigits (n%1000000000)).length:=ba_sz _;have hsh:(nd B32 (n/1000000000)).length<=40000000:=by
    refine Nat.le_trans ?_ hl;rw[nd_len a0e];exact Nat.lt_of_le_of_lt (Nat.div_le_self _ _) ((nd_len a0e n _).1 (Nat.le_refl _))
   by_cases h1:n/1000000000=0
   ·rw[textParts_one hn h1,List.length_singleton]at hacc;have hmn:n%1000000000=n:=by omega
    have hc:(acc.length+ [mkB (Go.Lib.decDigits n)].length)*16<=140737488355328:=by
     rw[List.length_singleton];omega
    have hz:¬(((nd B32 0).length:Int)>0):=by rw[nd_zero a0e];simp
    have hi:=ih 0 (by omega) (acc++[mkB (Go.Lib.decDigits n)]) k (by omega) (by rw[nd_zero a0e];simp) (by rw[textParts_zero];simp;omega);rw[h1,hmn,if_neg (by simpa using hz),if_pos (decide_eq_true hc),hi,textParts_zero,textParts_one hn h1,List.map_nil,List.append_nil];rfl
   ·rw[textParts_more h1,List.length_cons]at hacc;have hz:((nd B32 (n/1000000000)).length:Int)>0:=by
     rw[nd_pos a0e h1,List.length_cons];omega
    have sr:S.strings_Repeat (bs [48],(IntKind.wrap .i64 (9 - (((mkB (Go.Lib.decDigits (n%1000000000))).size:Nat):Int)),()))=some (mkB (List.replicate (9 - (Go.Lib.decDigits (n%1000000000)).length) 48),()):=by
     rw[hsz,wr (by omega) (by omega)];unfold S.strings_Repeat;dsimp only;have h48:(bs [48]).data.toList=[48]:=rfl;rw[if_pos ⟨by omega,by omega,by decide⟩,h48,repeatL_one,show((9:Int) - ((Go.Lib.decDigits (n%1000000000)).length:Int)).toNat=9 - (Go.Lib.decDigits (n%1000000000)).length by omega];rfl
    rw[if_pos (decide_eq_true hz),sr,Option.bind_some];dsimp only;have hsum:(mkB (List.replicate (9 - (Go.Lib.decDigits (n%1000000000)).length) 48)).size+(mkB (Go.Lib.decDigits (n%1000000000))).size<=9223372036854775807:=by
     rw[hsz,show(mkB (List.replicate (9 - (Go.Lib.decDigits (n%1000000000)).length) 48)).size=_ from ba_sz _,List.length_replicate];omega
    have happ:mkB (List.replicate (9 - (Go.Lib.decDigits (n%1000000000)).length) 48)++mkB (Go.Lib.decDigits (n%1000000000))=mkB (decPad 9 (n%1000000000)):=by
     rw[<-p1];exact ba_app _ _
    have hc:(acc.length+ [mkB (decPad 9 (n%1000000000))].length)*16<=140737488355328:=by
     rw[List.length_singleton];omega
    have hi:=ih (n/1000000000) (by omega) (acc++[mkB (decPad 9 (n%1000000000))]) k (by omega) hsh (by simp;omega);rw[if_pos (decide_eq_true hsum),happ,if_pos (decide_eq_true hc),hi,textParts_more h1,List.map_cons,List.append_assoc];rfl
def S.i_nat_text (x:((List Int)×Unit)):(Option (ByteArray×Unit)):=if canon B32 x.1=true/\x.1.length<=40000000 then some (⟨(Go.Lib.decDigits (a0c B32 x.1)).toArray⟩,())else none
theorem S.i_nat_text_ok (x r) (h:S.i_nat_text x=some r):∃k,P.i_nat_text k x=some r:=by
 obtain⟨xs,u⟩:=x;unfold S.i_nat_text at h;dsimp only at h;split at h
 case isFalse=>cases h
 rename_i hc;obtain⟨ca,la⟩:=hc;cases h;refine⟨a0c B32 xs+1,?_⟩;unfold P.i_nat_text;dsimp only
 by_cases he:xs=[]
 ·subst he;rw[if_pos (by rfl),show a0c B32 []=0 from rfl,dec_small (by decide)];rfl
 ·have hpos:0<xs.length:=List.length_pos_iff.2 he;have h0:a0c B32 xs≠0:=by
   intro q;have:=canon_eq ca;rw[q,nd_zero a0e]at this;exact he this.symm
  have hb:a0c B32 xs<B32^xs.length:=dval_lt (canon_dig ca);have hb2:a0c B32 xs<(10^10)^xs.length:=Nat.lt_of_lt_of_le hb (Nat.pow_le_pow_left (by decide) _);rw[<-Nat.pow_mul]at hb2;have hlen:(Go.Lib.decDigits (a0c B32 xs)).length<=10*xs.length:=dec_len (by omega) hb2;have hb3:a0c B32 xs<B10^(2*xs.length):=by
   refine Nat.lt_of_lt_of_le hb ?_;rw[Nat.pow_mul];exact Nat.pow_le_pow_left (by decide) _
  have hparts:(textParts (a0c B32 xs)).length<=2*xs.length:=by
   rw[textParts_len,nd_len a0d];exact hb3
  rw[if_neg (by simp;exact he)];have key:=it_loop (a0c B32 xs) [] (a0c B32 xs+1) (by omega) (by rw[canon_eq ca];omega) (by simp;omega);rw[canon_eq ca,List.nil_append]at key;rw[key];have hall:=textParts_all h0;generalize textParts (a0c B32 xs)=ps at*;unfold S.a1a S.strings_Join;dsimp only;have hj:joinB (Go.Cm.splice (ps.map mkB) (ps.map mkB).reverse 0) (bs [])=Go.Lib.decDigits (a0c B32 xs):=by
   rw[splice_all (by simp)];unfold joinB;rw[show(bs []).data.toList=[]from rfl,join_empty,<-List.map_reverse,List.map_map];rw[show(fun x:ByteArray=>x.data.toList) ∘ mkB=id by funext l;simp [mkB],List.map_id];exact hall
  rw[if_pos (by simp;omega),Option.bind_some];dsimp only;rw[hj,if_pos ⟨by rw[splice_all (by simp)];simp;omega,by omega⟩,Option.bind_some]
def P.i_rat_text (k:Nat) (x:RB×Unit):Option ((ByteArray×Bool)×Unit):=
 (S.i_nat_text (x.1.2.1,())).bind fun y0=>(S.i_nat_text (x.1.2.2,())).bind fun y1=>if x.1.1 then if decide ((1+y0.1.size)<=9223372036854775807)then if ! ((ByteArray.toList y1.1)==(ByteArray.toList (bs [49])))then if decide ((1+y1.1.size)<=9223372036854775807)then if decide (((ByteArray.size ((bs [45])++y0.1))+(ByteArray.size ((bs [47])++y1.1)))<=9223372036854775807)then if decide ((y0.1.size:Int)<=200)then some ((((bs [45])++y0.1)++((bs [47])++y1.1),decide ((y1.1.size:Int)<=200)),())else some ((((bs [45])++y0.1)++((bs [47])++y1.1),false),())else none else none else if decide ((y0.1.size:Int)<=200)then some (((bs [45])++y0.1,decide ((y1.1.size:Int)<=200)),())else some (((bs [45])++y0.1,false),())else none else if ! ((ByteArray.toList y1.1)==(ByteArray.toList (bs [49])))then if decide ((1+y1.1.size)<=9223372036854775807)then if decide ((y0.1.size+(ByteArray.size ((bs [47])++y1.1)))<=9223372036854775807)then if decide ((y0.1.size:Int)<=200)then some ((y0.1++((bs [47])++y1.1),decide ((y1.1.size:Int)<=200)),())else some ((y0.1++((bs [47])++y1.1),false),())else none else none else if decide ((y0.1.size:Int)<=200)then some ((y0.1,decide ((y1.1.size:Int)<=200)),())else some ((y0.1,false),())
def S.i_rat_text (x:(RB×Unit)):(Option ((ByteArray×Bool)×Unit)):=if rok B32 40000000 x.1=true then some ((⟨(ratTx (rv B32 x.1)).toArray⟩,fitN (rv B32 x.1)),())else none
theorem S.i_rat_text_ok (x r) (h:S.i_rat_text x=some r):∃k,P.i_rat_text k x=some r:=by
 obtain⟨⟨neg,as,bs'⟩,u⟩:=x;unfold S.i_rat_text at h;dsimp only at h;split at h
 case isFalse=>cases h
 rename_i hc;rw[rok_iff]at hc;obtain⟨ca,cb,la,lb⟩:=hc;dsimp only at ca cb la lb;cases h;refine⟨0,?_⟩;unfold P.i_rat_text;dsimp only;have e1:∀xs,canon B32 xs=true->xs.length<=40000000->S.i_nat_text (xs,())=some (⟨(Go.Lib.decDigits (a0c B32 xs)).toArray⟩,()):=by
  intro xs cx lx;unfold S.i_nat_text;exact if_pos ⟨cx,lx⟩
 rw[e1 as ca la,Option.bind_some,e1 bs' cb lb,Option.bind_some];dsimp only;have l1:=canon_dec (show B32<=10^10 by decide) ca;have l2:=canon_dec (show B32<=10^10 by decide) cb;unfold rv ratTx fitN;dsimp only;have hd1:=dec_one (a0c B32 bs');generalize Go.Lib.decDigits (a0c B32 as)=t1 at*;generalize Go.Lib.decDigits (a0c B32 bs')=t2 at*;rw[ByteArray.toList_eq,ByteArray.toList_eq,show bs [49]=⟨([49]:List UInt8).toArray⟩from rfl,show bs [45]=⟨([45]:List UInt8).toArray⟩from rfl,show bs [47]=⟨([47]:List UInt8).toArray⟩from rfl];rw[ba_app,ba_app,ba_app,ba_app,ba_sz,ba_sz,ba_sz,ba_sz];have c1:(1+t1.length<=9223372036854775807):=by omega
 have c2:(1+t2.length<=9223372036854775807):=by omega
 have c3:([45]++t1).length+([47]++t2).length<=9223372036854775807:=by simp;omega
 have c4:t1.length+([47]++t2).length<=9223372036854775807:=by simp;omega
 simp only[c1,c2,c3,c4,decide_true,if_true];have d1:∀t:List UInt8,decide (((t.length:Nat):Int)<=200)=decide (t.length<=200):=by
  intro t;rw[decide_eq_decide];omega
 rw[d1,d1];have d2:((!(t2== [49]))=true)↔¬a0c B32 bs'=1:=by
  rw[<-hd1];simp
 by_cases hq:a0c B32 bs'=1
 ·have n2:¬((!(t2== [49]))=true):=by rw[d2];exact fun q=>q hq
  cases neg<;>simp only[n2,hq,if_true,if_false,Bool.false_eq_true,List.append_nil,List.nil_append]<;>cases decide (t1.length<=200)<;>simp
 ·have n2:((!(t2== [49]))=true):=d2.2 hq;cases neg<;>simp only[n2,hq,if_true,if_false,Bool.false_eq_true,List.nil_append]<;>cases decide (t1.length<=200)<;>simp
def P.i_told (k:Nat) (x:RB×Unit):Option ((ByteArray×Bool)×Unit):=
 (S.i_rat_text ((x.1.1,x.1.2.1,x.1.2.2),())).bind fun y0=>if !y0.1.2 then some ((bs [],false),())else some ((y0.1.1,true),())
def S.i_told (x:(RB×Unit)):(Option ((ByteArray×Bool)×Unit)):=if rok B32 40000000 x.1=true then some (giveN (rv B32 x.1),())else none
theorem S.i_told_ok (x r) (h:S.i_told x=some r):∃k,P.i_told k x=some r:=by
 obtain⟨⟨neg,as,bs'⟩,u⟩:=x;unfold S.i_told at h;dsimp only at h;split at h
 case isFalse=>cases h
 rename_i hc;cases h;refine⟨0,?_⟩;unfold P.i_told S.i_rat_text;dsimp only;rw[if_pos hc,Option.bind_some];unfold giveN;dsimp only;cases fitN (rv B32 (neg,(as,bs')))<;>simp
abbrev P.i_nat_cmp_b0 (x1:Int×List Int×List Int×Unit) (g2:Int×List Int×List Int×Unit->Option (Int×Unit)):Option (Int×Unit):=
 (fun(a:Int) (b c:List Int)=>if decide (a>=0)then if decide (0<=a)then if decide (a<(b.length:Int))then if decide (0<=a)then if decide (a<(c.length:Int))then if(b.getD a.toNat 0) != (c.getD a.toNat 0)then if decide (0<=a)then if decide (a<(b.length:Int))then if decide (0<=a)then if decide (a<(c.length:Int))then if decide ((b.getD a.toNat 0)<(c.getD a.toNat 0))then some ((-1:Int),())else some (1,())else none else none else none else none else g2 (wrap .i64 (a - 1),b,c,())else none else none else none else none else some (0,())) x1.1 x1.2.1 x1.2.2.1
def P.i_nat_cmp (k:Nat) (x:List Int×List Int×Unit):Option (Int×Unit):=
 if(x.1.length:Int) != (x.2.1.length:Int)then if decide ((x.1.length:Int)<(x.2.1.length:Int))then some ((-1:Int),())else some (1,())else loopP P.i_nat_cmp_b0 k (wrap .i64 ((x.1.length:Int) - 1),x.1,x.2.1,())
def S.i_nat_cmp (x:((List Int)×((List Int)×Unit))):(Option (Int×Unit)):=if canon B32 x.1=true/\canon B32 x.2.1=true/\x.1.length<=1000000000000 then some (cmpN (a0c B32 x.1) (a0c B32 x.2.1),())else none
theorem S.i_nat_cmp_ok (x r) (h:S.i_nat_cmp x=some r):∃k,P.i_nat_cmp k x=some r:=by
 obtain⟨xs,ys,u⟩:=x;unfold S.i_nat_cmp at h;dsimp only at h;split at h
 case isFalse=>cases h
 rename_i hc;obtain⟨cx,cy,hl⟩:=hc;cases h;refine⟨xs.length+1,?_⟩;unfold P.i_nat_cmp;dsimp only
 by_cases hn:xs.length=ys.length
 ·rw[if_neg (by simp [hn]),wr (by omega) (by omega)];have key:=a0g (k:=xs.length+1) (b:=P.i_nat_cmp_b0) (n:=xs.length) (st:=fun j=>((xs.length:Int) - 1 - (j:Int),xs,ys,())) (F:=fun j=>some (cmpN (a0c B32 (xs.take (xs.length - j))) (a0c B32 (ys.take (xs.length - j))),())) (fun j g hj hg=>by
   unfold P.i_nat_cmp_b0;dsimp only at hg ⊢;have e1:(xs.length:Int) - 1 - (j:Int)>=0:=by omega
   have e3:(0:Int)<=(xs.length:Int) - 1 - (j:Int):=by omega
   have e4:(xs.length:Int) - 1 - (j:Int)<(xs.length:Int):=by omega
   have e4':(xs.length:Int) - 1 - (j:Int)<(ys.length:Int):=by omega
   simp only[e1,e4,e4',decide_true,if_true];have hi:xs.length - (j+1)<xs.length:=by omega
   have hi':xs.length - (j+1)<ys.length:=by omega
   have e5:(xs.length:Int) - 1 - (j:Int)=((xs.length - (j+1):Nat):Int):=by omega
   have e6:xs.length - j=(xs.length - (j+1))+1:=by omega
   rw[e5,a0o xs _ _ hi,a0o ys _ _ hi',e6];generalize xs.length - (j+1)=i at*
   by_cases hq:xs[i]=ys[i]
   ·rw[if_neg (by simp [hq]),wr (by omega) (by omega)];have e7:((i:Nat):Int) - 1=(xs.length:Int) - 1 - ((j+1:Nat):Int):=by omega
    rw[e7,hg,<-List.take_append_getElem hi,<-List.take_append_getElem hi',a0z,a0z,hq];have hlx:(xs.take i).length=i:=by simp;omega
    have hly:(ys.take i).length=i:=by simp;omega
    rw[hlx,hly];unfold cmpN;simp only[Nat.add_lt_add_iff_right]
   ·rw[if_pos (by simp [hq])]
    by_cases hlt:xs[i]<ys[i]
    ·have:=dval_top xs ys i hi hi' (canon_dig cx) (canon_dig cy) hlt;rw[if_pos (decide_eq_true hlt),cmpN,if_pos this]
    ·have:=dval_top ys xs i hi' hi (canon_dig cy) (canon_dig cx) (by omega);rw[if_neg (by simpa using hlt),cmpN,if_neg (by omega),if_pos this]) (fun g=>by
   unfold P.i_nat_cmp_b0;dsimp only;rw[if_neg (by simp;omega),Nat.sub_self,List.take_zero,List.take_zero];rfl) (by omega)
  rw[show(xs.length:Int) - 1 - ((0:Nat):Int)=(xs.length:Int) - 1 by omega,Nat.sub_zero,List.take_length,List.take_of_length_le (by omega)]at key;exact key
 ·rw[if_pos (by simp;omega)]
  by_cases hlt:xs.length<ys.length
  ·rw[if_pos (decide_eq_true (by omega)),cmpN,if_pos (canon_small a0e cx cy hlt)]
  ·have:=canon_small a0e cy cx (by omega);rw[if_neg (by simp;omega),cmpN,if_neg (by omega),if_pos this]
abbrev P.i_nat_sub_b0 (x1:Int×Int×List Int×Int×List Int×List Int×Unit) (g2:Int×Int×List Int×Int×List Int×List Int×Unit->Option (List Int×Unit)):Option (List Int×Unit):=
 (fun(a b d:Int) (c e f:List Int)=>if decide (a<b)then if decide (0<=a)then if decide (a<(c.length:Int))then if decide (a<(e.length:Int))then if decide (0<=a)then if decide (a<(e.length:Int))then if decide ((wrap .i64 ((wrap .i64 ((wrap .i64 (c.getD a.toNat 0)) - d)) - (wrap .i64 (e.getD a.toNat 0))))<0)then if decide (0<=a)then if decide (a<(f.length:Int))then g2 (wrap .i64 (a+1),b,c,1,e,f.set (0+a.toNat) (wrap .u32 (wrap .i64 ((wrap .i64 ((wrap .i64 (c.getD a.toNat 0)) - d)) - (wrap .i64 (e.getD a.toNat 0))))),())else none else none else if decide (0<=a)then if decide (a<(f.length:Int))then g2 (wrap .i64 (a+1),b,c,0,e,f.set (0+a.toNat) (wrap .u32 (wrap .i64 ((wrap .i64 ((wrap .i64 (c.getD a.toNat 0)) - d)) - (wrap .i64 (e.getD a.toNat 0))))),())else none else none else none else none else if decide ((wrap .i64 ((wrap .i64 (c.getD a.toNat 0)) - d))<0)then if decide (0<=a)then if decide (a<(f.length:Int))then g2 (wrap .i64 (a+1),b,c,1,e,f.set (0+a.toNat) (wrap .u32 (wrap .i64 ((wrap .i64 (c.getD a.toNat 0)) - d))),())else none else none else if decide (0<=a)then if decide (a<(f.length:Int))then g2 (wrap .i64 (a+1),b,c,0,e,f.set (0+a.toNat) (wrap .u32 (wrap .i64 ((wrap .i64 (c.getD a.toNat 0)) - d))),())else none else none else none else none else(S.i_nat_trim (f,())).bind fun y3=>some (y3.1,())) x1.1 x1.2.1 x1.2.2.2.1 x1.2.2.1 x1.2.2.2.2.1 x1.2.2.2.2.2.1
def P.i_nat_sub (k:Nat) (x:List Int×List Int×Unit):Option (List Int×Unit):=
 if decide (0<=(x.1.length:Int))then if decide ((x.1.length:Int)<=(x.1.length:Int))then if decide (((x.1.length:Int)*4)<=281474976710656)then loopP P.i_nat_sub_b0 k (0,(x.1.length:Int),x.1,0,x.2.1,List.replicate (Int.toNat (x.1.length:Int)) 0,())else none else none else none
def S.i_nat_sub (x:((List Int)×((List Int)×Unit))):(Option ((List Int)×Unit)):=if dig B32 x.1=true/\dig B32 x.2.1=true/\x.2.1.length<=x.1.length/\a0c B32 x.2.1<=a0c B32 x.1/\x.1.length<=10000000000 then some (nd B32 (a0c B32 x.1 - a0c B32 x.2.1),())else none
theorem S.i_nat_sub_ok (x r) (h:S.i_nat_sub x=some r):∃k,P.i_nat_sub k x=some r:=by
 obtain⟨xs,ys,u⟩:=x;unfold S.i_nat_sub at h;dsimp only at h;split at h
 case isFalse=>cases h
 rename_i hc;obtain⟨dx,dy,hl,hv,lx⟩:=hc;cases h;refine⟨xs.length+1,?_⟩;unfold P.i_nat_sub;dsimp only;have a1:(0:Int)<=(xs.length:Int):=by omega
 have a2:(xs.length:Int)*4<=281474976710656:=by omega
 simp only[a1,a2,decide_true,if_true,Int.le_refl,Int.toNat_natCast];have key:=a0g (k:=xs.length+1) (b:=P.i_nat_sub_b0) (n:=xs.length) (st:=fun i=>((i:Int),(xs.length:Int),xs,((takeUp B32 1 xs ys i).2.2:Int),ys,(takeUp B32 1 xs ys i).1++List.replicate (xs.length - i) 0,())) (F:=fun i=>some (nd B32 (a0c B32 xs - a0c B32 ys),())) (fun i g hi hg=>by
  unfold P.i_nat_sub_b0;dsimp only at hg ⊢;refine Eq.trans ?_ hg;clear hg;obtain⟨q1,q2,q3,q4,q5⟩:=takeUp_ok (t:=1) a0e dx dy i;have gx:=a1d (B:=B32) (by decide) dx i;have gy:=a1d (B:=B32) (by decide) dy i;have gx1:xs.getD i 0<4294967296:=gx.2;have gy1:ys.getD i 0<4294967296:=gy.2;have gx0:=gx.1;have gy0:=gy.1;have hlen:((takeUp B32 1 xs ys i).1++List.replicate (xs.length - i) (0:Int)).length=xs.length:=by rw[List.length_append,q2,List.length_replicate];omega
  have e1:(i:Int)<(xs.length:Int):=by omega
  have e2:(0:Int)<=(i:Int):=by omega
  rw[hlen];simp only[e1,e2,decide_true,if_true,Nat.zero_add,Int.toNat_natCast];have hrep:List.replicate (xs.length - i) (0:Int)=0::List.replicate (xs.length - (i+1)) 0:=by
   rw[show xs.length - i=(xs.length - (i+1))+1 by omega,List.replicate_succ]
  rw[hrep];simp only[mid_set q2];rw[(takeUp_one a0e (xs:=xs) dy i).2];dsimp only;have y0:¬((i:Int)<(ys.length:Int))->ys.getD i 0=0:=by
   intro hj;rw[List.getD_eq_getElem?_getD,List.getElem?_eq_none (by omega)];rfl
  generalize (takeUp B32 1 xs ys i).1=pl at*;generalize (takeUp B32 1 xs ys i).2.2=l0 at*;obtain⟨x,hx⟩:∃x,xs.getD i 0=x:=⟨_,rfl⟩
  obtain⟨y,hy⟩:∃y,ys.getD i 0=y:=⟨_,rfl⟩
  simp only[hx,hy]at gx1 gx0 gy1 gy0 y0 ⊢;have hB:((B32:Nat):Int)=4294967296:=rfl;rw[wr (x:=(i:Int)+1) (by omega) (by omega),wr (x:=x) (by omega) (by omega),wr (x:=x - (l0:Int)) (by omega) (by omega),hB]
  by_cases hj:(i:Int)<(ys.length:Int)
  ·rw[if_pos (decide_eq_true hj),if_pos (decide_eq_true hj),wr (x:=y) (by omega) (by omega),wr (x:=x - (l0:Int) - y) (by omega) (by omega),u32_emod,show x - (l0:Int) - y=x - y - (l0:Int) by omega]
   by_cases hn:x - y - (l0:Int)<0
   ·rw[if_pos (decide_eq_true hn),if_pos hn];rfl
   ·rw[if_neg (by simpa using hn),if_neg hn];rfl
  ·have hy0:=y0 hj;subst hy0;rw[if_neg (by simpa using hj),u32_emod,show x - 0 - (l0:Int)=x - (l0:Int) by omega]
   by_cases hn:x - (l0:Int)<0
   ·rw[if_pos (decide_eq_true hn),if_pos hn];rfl
   ·rw[if_neg (by simpa using hn),if_neg hn];rfl) (fun g=>by
  unfold P.i_nat_sub_b0;dsimp only;rw[if_neg (by simp),Nat.sub_self,show List.replicate 0 (0:Int)=[]from rfl,List.append_nil,takeUp_fd a0e dx dy hl hv];unfold S.i_nat_trim;dsimp only;have hb:=dval_lt dx;rw[if_pos ⟨dig_fd (by decide) _ _,by rw[fd_len];omega⟩,Option.bind_some,nd_fd a0e (by omega)]) (by omega)
 exact key
abbrev i_nat_add.A:=Int×Int×Int×List Int×List Int×List Int×Unit
abbrev i_nat_add.B:=Option (List Int×Unit)
abbrev P.i_nat_add_b0 (x1:i_nat_add.A) (g2:i_nat_add.A->i_nat_add.B):i_nat_add.B:=
 (fun(a b c:Int) (d e f:List Int)=>if decide (a<b)then if decide (0<=a)then if decide (a<(d.length:Int))then if decide (a<(e.length:Int))then if decide (0<=a)then if decide (a<(e.length:Int))then if decide (0<=a)then if decide (a<(f.length:Int))then g2 (wrap .i64 (a+1),b,Int.fdiv (wrap .u64 ((wrap .u64 (c+(wrap .u64 (d.getD a.toNat 0))))+(wrap .u64 (e.getD a.toNat 0)))) 4294967296,d,e,f.set (0+a.toNat) (wrap .u32 (wrap .u64 ((wrap .u64 (c+(wrap .u64 (d.getD a.toNat 0))))+(wrap .u64 (e.getD a.toNat 0))))),())else none else none else none else none else if decide (0<=a)then if decide (a<(f.length:Int))then g2 (wrap .i64 (a+1),b,Int.fdiv (wrap .u64 (c+(wrap .u64 (d.getD a.toNat 0)))) 4294967296,d,e,f.set (0+a.toNat) (wrap .u32 (wrap .u64 (c+(wrap .u64 (d.getD a.toNat 0))))),())else none else none else none else none else if decide (0<=(d.length:Int))then if decide ((d.length:Int)<(f.length:Int))then(S.i_nat_trim (f.set (0+(Int.toNat (d.length:Int))) (wrap .u32 c),())).bind fun y3=>some (y3.1,())else none else none) x1.1 x1.2.1 x1.2.2.1 x1.2.2.2.1 x1.2.2.2.2.1 x1.2.2.2.2.2.1
abbrev P.i_nat_add_b4 (x5:i_nat_add.A) (g6:i_nat_add.A->i_nat_add.B):i_nat_add.B:=
 (fun(a b c:Int) (d e f:List Int)=>if decide (a<b)then if decide (0<=a)then if decide (a<(d.length:Int))then if decide (a<(e.length:Int))then if decide (0<=a)then if decide (a<(e.length:Int))then if decide (0<=a)then if decide (a<(f.length:Int))then g6 (wrap .i64 (a+1),b,Int.fdiv (wrap .u64 ((wrap .u64 (c+(wrap .u64 (d.getD a.toNat 0))))+(wrap .u64 (e.getD a.toNat 0)))) 4294967296,d,e,f.set (0+a.toNat) (wrap .u32 (wrap .u64 ((wrap .u64 (c+(wrap .u64 (d.getD a.toNat 0))))+(wrap .u64 (e.getD a.toNat 0))))),())else none else none else none else none else if decide (0<=a)then if decide (a<(f.length:Int))then g6 (wrap .i64 (a+1),b,Int.fdiv (wrap .u64 (c+(wrap .u64 (d.getD a.toNat 0)))) 4294967296,d,e,f.set (0+a.toNat) (wrap .u32 (wrap .u64 (c+(wrap .u64 (d.getD a.toNat 0))))),())else none else none else none else none else if decide (0<=(d.length:Int))then if decide ((d.length:Int)<(f.length:Int))then(S.i_nat_trim (f.set (0+(Int.toNat (d.length:Int))) (wrap .u32 c),())).bind fun y7=>some (y7.1,())else none else none) x5.1 x5.2.1 x5.2.2.1 x5.2.2.2.1 x5.2.2.2.2.1 x5.2.2.2.2.2.1
def P.i_nat_add (k:Nat) (x:List Int×List Int×Unit):i_nat_add.B:=
 if decide ((x.1.length:Int)<(x.2.1.length:Int))then if decide (0<=(wrap .i64 ((x.2.1.length:Int)+1)))then if decide ((wrap .i64 ((x.2.1.length:Int)+1))<=(wrap .i64 ((x.2.1.length:Int)+1)))then if decide (((wrap .i64 ((x.2.1.length:Int)+1))*4)<=281474976710656)then loopP P.i_nat_add_b0 k (0,(x.2.1.length:Int),0,x.2.1,x.1,List.replicate (Int.toNat (wrap .i64 ((x.2.1.length:Int)+1))) 0,())else none else none else none else if decide (0<=(wrap .i64 ((x.1.length:Int)+1)))then if decide ((wrap .i64 ((x.1.length:Int)+1))<=(wrap .i64 ((x.1.length:Int)+1)))then if decide (((wrap .i64 ((x.1.length:Int)+1))*4)<=281474976710656)then loopP P.i_nat_add_b4 k (0,(x.1.length:Int),0,x.1,x.2.1,List.replicate (Int.toNat (wrap .i64 ((x.1.length:Int)+1))) 0,())else none else none else none
theorem add_loop (b:(Int×(Int×(Int×((List Int)×((List Int)×((List Int)×Unit))))))->((Int×(Int×(Int×((List Int)×((List Int)×((List Int)×Unit))))))->Option ((List Int)×Unit))->Option ((List Int)×Unit)) (hb:b=P.i_nat_add_b0)
  (xs ys:List Int) (hx:dig B32 xs=true) (hy:dig B32 ys=true) (hl:ys.length<=xs.length) (hbig:xs.length<=100000000000):
  loopP b (xs.length+1) ((0:Int),((xs.length:Int),((0:Int),(xs,(ys,(List.replicate (xs.length+1) 0,()))))))=some (nd B32 (a0c B32 xs+a0c B32 ys),()):=by
 subst hb;have key:=a0g (k:=xs.length+1) (b:=P.i_nat_add_b0) (n:=xs.length) (st:=fun i=>((i:Int),(xs.length:Int),((addUp B32 xs ys i).2:Int),xs,ys,(addUp B32 xs ys i).1++List.replicate (xs.length+1 - i) 0,())) (F:=fun i=>some (nd B32 (a0c B32 xs+a0c B32 ys),())) (fun i g hi hg=>by
  unfold P.i_nat_add_b0;dsimp only at hg ⊢;obtain⟨q1,q2,q3,q4⟩:=addUp_ok a0e hx hy i;have gx:=a1d (B:=B32) (by decide) hx i;have gy:=a1d (B:=B32) (by decide) hy i;have gx1:xs.getD i 0<4294967296:=gx.2;have gy1:ys.getD i 0<4294967296:=gy.2;have gx0:=gx.1;have gy0:=gy.1;have hlen:((addUp B32 xs ys i).1++List.replicate (xs.length+1 - i) (0:Int)).length=xs.length+1:=by rw[List.length_append,q2,List.length_replicate];omega
  have e1:(i:Int)<(xs.length:Int):=by omega
  have e2:(0:Int)<=(i:Int):=by omega
  have e3:(i:Int)<((xs.length+1:Nat):Int):=by omega
  have hset:∀v:Int,((addUp B32 xs ys i).1++List.replicate (xs.length+1 - i) (0:Int)).set i v=((addUp B32 xs ys i).1++[v])++List.replicate (xs.length+1 - (i+1)) 0:=by
   intro v;have z1:xs.length+1 - i=(xs.length+1 - (i+1))+1:=by omega
   rw[z1,List.replicate_succ,List.set_append_right _ _ (by omega),q2,Nat.sub_self,List.append_assoc];rfl
  rw[hlen];simp only[e1,e2,e3,decide_true,if_true,Nat.zero_add,Int.toNat_natCast,hset];have hnat:∀n:Nat,n=(addUp B32 xs ys i).2+(xs.getD i 0).toNat+(ys.getD i 0).toNat->(((n%B32:Nat):Int)=(n:Int)%4294967296/\((n/B32:Nat):Int)=(n:Int)/4294967296):=by
   intro n _;constructor
   ·show((n%4294967296:Nat):Int)=_;omega
   ·show((n/4294967296:Nat):Int)=_;omega
  obtain⟨n1,n2⟩:=hnat _ rfl;rw[addUp]at hg;dsimp only at hg;rw[n1,n2]at hg
  by_cases hj:(i:Int)<(ys.length:Int)
  ·rw[if_pos (decide_eq_true hj),if_pos (decide_eq_true hj)];rw[wu (x:=xs.getD i 0) (by omega) (by omega),wu (x:=ys.getD i 0) (by omega) (by omega),wu (x:=((addUp B32 xs ys i).2:Int)+xs.getD i 0) (by omega) (by omega),wu (x:=((addUp B32 xs ys i).2:Int)+xs.getD i 0+ys.getD i 0) (by omega) (by omega),u32_mod _ (by omega),Int.fdiv_eq_ediv_of_nonneg _ (by omega),wr (by omega) (by omega)];have e:(((addUp B32 xs ys i).2+(xs.getD i 0).toNat+(ys.getD i 0).toNat:Nat):Int)=((addUp B32 xs ys i).2:Int)+xs.getD i 0+ys.getD i 0:=by omega
   rw[e]at hg;exact hg
  ·rw[if_neg (by simpa using hj)];have y0:ys.getD i 0=0:=by rw[List.getD_eq_getElem?_getD,List.getElem?_eq_none (by omega)];rfl
   rw[wu (x:=xs.getD i 0) (by omega) (by omega),wu (x:=((addUp B32 xs ys i).2:Int)+xs.getD i 0) (by omega) (by omega),u32_mod _ (by omega),Int.fdiv_eq_ediv_of_nonneg _ (by omega),wr (by omega) (by omega)];have e:(((addUp B32 xs ys i).2+(xs.getD i 0).toNat+(ys.getD i 0).toNat:Nat):Int)=((addUp B32 xs ys i).2:Int)+xs.getD i 0:=by omega
   rw[e]at hg;exact hg) (fun g=>by
  unfold P.i_nat_add_b0;dsimp only;obtain⟨q1,q2,q3,q4⟩:=addUp_ok a0e hx hy xs.length;have hlen:((addUp B32 xs ys xs.length).1++List.replicate (xs.length+1 - xs.length) (0:Int)).length=xs.length+1:=by rw[List.length_append,q2,List.length_replicate];omega
  have e2:(0:Int)<=(xs.length:Int):=by omega
  have e3:(xs.length:Int)<((xs.length+1:Nat):Int):=by omega
  rw[if_neg (by simp),hlen,if_pos (decide_eq_true e2),if_pos (decide_eq_true e3),Nat.zero_add,Int.toNat_natCast];have hset:∀v:Int,((addUp B32 xs ys xs.length).1++List.replicate (xs.length+1 - xs.length) (0:Int)).set xs.length v=(addUp B32 xs ys xs.length).1++[v]:=by
   intro v;have z1:xs.length+1 - xs.length=1:=by omega
   rw[z1,List.set_append_right _ _ (by omega),q2,Nat.sub_self];rfl
  rw[hset,w32 (by omega) (by omega)];have hd:dig B32 ((addUp B32 xs ys xs.length).1++[((addUp B32 xs ys xs.length).2:Int)])=true:=by
   rw[dig_append,q1,Bool.true_and,dig_cons];refine⟨⟨by omega,?_⟩,rfl⟩;show _<(4294967296:Int)
   omega
  rw[trim_i _ hd (by simp [q2];omega),Option.bind_some];have ev:a0c B32 ((addUp B32 xs ys xs.length).1++[((addUp B32 xs ys xs.length).2:Int)])=a0c B32 xs+a0c B32 ys:=by
   rw[a0z,q2];have e:a0c B32 [((addUp B32 xs ys xs.length).2:Int)]=(addUp B32 xs ys xs.length).2:=by simp [a0c]
   rw[e,q3,List.take_length,List.take_of_length_le hl]
  rw[ev]) (by omega)
 exact key
def S.i_nat_add (x:((List Int)×((List Int)×Unit))):(Option ((List Int)×Unit)):=if dig B32 x.1=true/\dig B32 x.2.1=true/\x.1.length<=10000000000/\x.2.1.length<=10000000000 then some (nd B32 (a0c B32 x.1+a0c B32 x.2.1),())else none
theorem S.i_nat_add_ok (x r) (h:S.i_nat_add x=some r):∃k,P.i_nat_add k x=some r:=by
 obtain⟨xs,ys,u⟩:=x;unfold S.i_nat_add at h;dsimp only at h;split at h
 case isFalse=>cases h
 rename_i hc;obtain⟨dx,dy,lx,ly⟩:=hc;cases h
 by_cases hlt:xs.length<ys.length
 ·refine⟨ys.length+1,?_⟩;unfold P.i_nat_add;dsimp only;have a1:(0:Int)<=(ys.length:Int)+1:=by omega
  have a3:((ys.length:Int)+1)*4<=281474976710656:=by omega
  rw[if_pos (decide_eq_true (by omega)),wr (by omega) (by omega),if_pos (decide_eq_true a1),if_pos (decide_eq_true (Int.le_refl _)),if_pos (decide_eq_true a3)];rw[show((ys.length:Int)+1).toNat=ys.length+1 by omega,add_loop P.i_nat_add_b0 rfl ys xs dy dx (by omega) (by omega),Nat.add_comm]
 ·refine⟨xs.length+1,?_⟩;unfold P.i_nat_add;dsimp only;have a1:(0:Int)<=(xs.length:Int)+1:=by omega
  have a3:((xs.length:Int)+1)*4<=281474976710656:=by omega
  rw[if_neg (by simp;omega),wr (by omega) (by omega),if_pos (decide_eq_true a1),if_pos (decide_eq_true (Int.le_refl _)),if_pos (decide_eq_true a3)];rw[show((xs.length:Int)+1).toNat=xs.length+1 by omega];exact add_loop P.i_nat_add_b4 rfl xs ys dx dy (by omega) (by omega)
abbrev i_nat_mul.A:=Int×Int×List Int×Int×Int×List Int×Int×List Int×Int×Int×List Int×Unit
abbrev i_nat_mul.B:=Int×Int×List Int×List Int×List Int×Unit
abbrev i_nat_mul.C:=Option (List Int×Unit)
abbrev P.i_nat_mul_b3 (g2:i_nat_mul.B->i_nat_mul.C) (x4:i_nat_mul.A) (g5:i_nat_mul.A->i_nat_mul.C):i_nat_mul.C:=
 (fun(a b d e h j l:Int) (c f i m:List Int)=>if decide (a<b)then if decide (0<=a)then if decide (a<(c.length:Int))then if decide (0<=(wrap .i64 (h+a)))then if decide ((wrap .i64 (h+a))<(f.length:Int))then if decide (0<=(wrap .i64 (h+a)))then if decide ((wrap .i64 (h+a))<(f.length:Int))then g5 (wrap .i64 (a+1),b,c,Int.fdiv (wrap .u64 (d+(wrap .u64 ((wrap .u64 ((wrap .u64 e)*(wrap .u64 (c.getD a.toNat 0))))+(wrap .u64 (f.getD (0+(Int.toNat (wrap .i64 (h+a)))) 0)))))) 4294967296,e,f.set (0+(Int.toNat (wrap .i64 (h+a)))) (wrap .u32 (wrap .u64 (d+(wrap .u64 ((wrap .u64 ((wrap .u64 e)*(wrap .u64 (c.getD a.toNat 0))))+(wrap .u64 (f.getD (0+(Int.toNat (wrap .i64 (h+a)))) 0))))))),h,i,j,l,m,())else none else none else none else none else none else none else if decide (0<=(wrap .i64 (h+(i.length:Int))))then if decide ((wrap .i64 (h+(i.length:Int)))<(f.length:Int))then g2 (wrap .i64 (j+1),l,m,i,f.set (0+(Int.toNat (wrap .i64 (h+(i.length:Int))))) (wrap .u32 d),())else none else none) x4.1 x4.2.1 x4.2.2.2.1 x4.2.2.2.2.1 x4.2.2.2.2.2.2.1 x4.2.2.2.2.2.2.2.2.1 x4.2.2.2.2.2.2.2.2.2.1 x4.2.2.1 x4.2.2.2.2.2.1 x4.2.2.2.2.2.2.2.1 x4.2.2.2.2.2.2.2.2.2.2.1
abbrev P.i_nat_mul_b0 (k:Nat) (x1:i_nat_mul.B) (g2:i_nat_mul.B->i_nat_mul.C):i_nat_mul.C:=
 if decide (x1.1<x1.2.1)then if decide (0<=x1.1)then if decide (x1.1<(x1.2.2.1.length:Int))then loopP (P.i_nat_mul_b3 g2) k (0,(x1.2.2.2.1.length:Int),x1.2.2.2.1,0,x1.2.2.1.getD x1.1.toNat 0,x1.2.2.2.2.1,x1.1,x1.2.2.2.1,x1.1,x1.2.1,x1.2.2.1,())else none else none else(S.i_nat_trim (x1.2.2.2.2.1,())).bind fun y6=>some (y6.1,())
def P.i_nat_mul (k:Nat) (x:List Int×List Int×Unit):i_nat_mul.C:=
 if decide (0<=(wrap .i64 ((x.1.length:Int)+(x.2.1.length:Int))))then if decide ((wrap .i64 ((x.1.length:Int)+(x.2.1.length:Int)))<=(wrap .i64 ((x.1.length:Int)+(x.2.1.length:Int))))then if decide (((wrap .i64 ((x.1.length:Int)+(x.2.1.length:Int)))*4)<=281474976710656)then loopP (P.i_nat_mul_b0 k) k (0,(x.1.length:Int),x.1,x.2.1,List.replicate (Int.toNat (wrap .i64 ((x.1.length:Int)+(x.2.1.length:Int)))) 0,())else none else none else none
theorem im_inner (g:(Int×(Int×((List Int)×((List Int)×((List Int)×Unit)))))->(Option ((List Int)×Unit))) (F:Option ((List Int)×Unit)) {xs ys:List Int} (hx:dig B32 xs=true) (hy:dig B32 ys=true) (hlx:xs.length<=10000000000) (hly:ys.length<=10000000000) {i:Nat} (hi:i<xs.length) (K:Nat) (hK:ys.length<K)
  (hg:g (((i+1:Nat):Int),((xs.length:Int),(xs,(ys,(fd B32 (xs.length+ys.length) (a0c B32 (xs.take (i+1))*a0c B32 ys),())))))=F):
  loopP (P.i_nat_mul_b3 g) K ((0:Int),((ys.length:Int),(ys,((0:Int),(xs.getD i 0,(fd B32 (xs.length+ys.length) (a0c B32 (xs.take i)*a0c B32 ys),((i:Int),(ys,((i:Int),((xs.length:Int),(xs,())))))))))))=F:=by
 have hA:=mul_bound a0e hx hy i (by omega);have hA':=mul_bound a0e hx hy (i+1) (by omega);have gx:=a1d (B:=B32) (by decide) hx i;have gx1:xs.getD i 0<4294967296:=gx.2;have gx0:=gx.1;rw[dval_take_succ,Nat.add_mul,Nat.mul_assoc]at hg hA';generalize a0c B32 (xs.take i)*a0c B32 ys=A at*;obtain⟨x,hxe⟩:∃x:Nat,xs.getD i 0=(x:Int):=⟨(xs.getD i 0).toNat,by omega⟩
 rw[hxe,Int.toNat_natCast]at hg hA';rw[hxe]at gx1 ⊢;have hxB:x<B32:=by show x<4294967296;omega
 have hsh:=mul_shape a0e hi hA;rw[hsh];have hlw:(fd B32 ys.length (A/B32^i)).length=ys.length:=fd_len _ _ _;have hdw:dig B32 (fd B32 ys.length (A/B32^i))=true:=dig_fd (by decide) _ _;have hvw:a0c B32 (fd B32 ys.length (A/B32^i))=A/B32^i:=by
  rw[dval_fd,Nat.mod_eq_of_lt];rw[Nat.div_lt_iff_lt_mul (Nat.pow_pos (by decide)),<-Nat.pow_add,Nat.add_comm];exact hA
 have hnext:=mul_next a0e (la:=xs.length) (lb:=ys.length) (R:=x*a0c B32 ys) hi hA';generalize hR:List.replicate (xs.length - 1 - i) (0:Int)=R at*;have hRl:R.length=xs.length - 1 - i:=by rw[<-hR,List.length_replicate]
 generalize hW:fd B32 ys.length (A/B32^i)=W at*;have hl0:(fd B32 i A).length=i:=fd_len _ _ _;have key:=a0g (k:=K) (b:=P.i_nat_mul_b3 g) (n:=ys.length) (st:=fun k=>((k:Int),(ys.length:Int),ys,((maUp B32 x W ys k).2:Int),(x:Int),(fd B32 i A++(maUp B32 x W ys k).1)++(W.drop k++(0:Int)::R),(i:Int),ys,(i:Int),(xs.length:Int),xs,())) (F:=fun k=>F) (fun k g' hk hg'=>by
  unfold P.i_nat_mul_b3;dsimp only at hg' ⊢;refine Eq.trans ?_ hg';clear hg';obtain⟨q1,q2,q3,q4⟩:=maUp_ok (x:=x) a0e hxB hdw hy k;have q4':(maUp B32 x W ys k).2<4294967296:=q4;have gy:=a1d (B:=B32) (by decide) hy k;have gw:=a1d (B:=B32) (by decide) hdw k;have gy1:ys.getD k 0<4294967296:=gy.2;have gw1:W.getD k 0<4294967296:=gw.2;have gy0:=gy.1;have gw0:=gw.1;have hAl:(fd B32 i A++(maUp B32 x W ys k).1).length=i+k:=by rw[List.length_append,hl0,q2]
  have hlen:((fd B32 i A++(maUp B32 x W ys k).1)++(W.drop k++(0:Int)::R)).length=xs.length+ys.length:=by
   rw[List.length_append,hAl,List.length_append,List.length_drop,List.length_cons,hlw,hRl];omega
  have e1:(k:Int)<(ys.length:Int):=by omega
  have e2:(0:Int)<=(k:Int):=by omega
  have e3:(0:Int)<=((i+k:Nat):Int):=by omega
  have e4:((i+k:Nat):Int)<((xs.length+ys.length:Nat):Int):=by omega
  rw[hlen,<-Int.natCast_add i k,wr (x:=((i+k:Nat):Int)) (by omega) (by omega)];simp only[e1,e2,e3,e4,decide_true,if_true,Nat.zero_add,Int.toNat_natCast];rw[drop_cons_getD (xs:=W) (i:=k) (by omega),List.cons_append,mid_get hAl];simp only[mid_set hAl];rw[maUp];dsimp only;generalize W.getD k 0=w at*;generalize ys.getD k 0=y at*;generalize maUp B32 x W ys k=p at*;obtain⟨pl,c0⟩:=p;dsimp only at*;obtain⟨Y,rfl⟩:∃Y:Nat,y=(Y:Int):=⟨y.toNat,by omega⟩
  obtain⟨w',rfl⟩:∃Y:Nat,w=(Y:Int):=⟨w.toNat,by omega⟩
  rw[Int.toNat_natCast,Int.toNat_natCast];have hxY:x*Y<=4294967295*4294967295:=Nat.mul_le_mul (by omega) (by omega);rw[wu (x:=(x:Int)) (by omega) (by omega),wu (x:=(Y:Int)) (by omega) (by omega),<-Int.natCast_mul,wu (x:=((x*Y:Nat):Int)) (by omega) (by omega),wu (x:=(w':Int)) (by omega) (by omega),<-Int.natCast_add,wu (x:=((x*Y+w':Nat):Int)) (by omega) (by omega),<-Int.natCast_add,wu (x:=((c0+(x*Y+w'):Nat):Int)) (by omega) (by omega),Int.fdiv_eq_ediv_of_nonneg _ (by omega),u32_emod,wr (x:=(k:Int)+1) (by omega) (by omega)];have e8:((c0+(x*Y+w'):Nat):Int)%4294967296=(((c0+(x*Y+w'))%B32:Nat):Int):=by
   show _=(((c0+(x*Y+w'))%4294967296:Nat):Int)
   omega
  have e9:((c0+(x*Y+w'):Nat):Int)/4294967296=(((c0+(x*Y+w'))/B32:Nat):Int):=by
   show _=(((c0+(x*Y+w'))/4294967296:Nat):Int)
   omega
  rw[e8,e9,<-List.append_assoc (fd B32 i A)];rfl) (fun g'=>by
  unfold P.i_nat_mul_b3;dsimp only;obtain⟨q1,q2,q3,q4⟩:=maUp_ok (x:=x) a0e hxB hdw hy ys.length;have q4':(maUp B32 x W ys ys.length).2<4294967296:=q4;rw[List.take_length,<-hlw,List.take_length,hlw,hvw]at q3;have hAl:(fd B32 i A++(maUp B32 x W ys ys.length).1).length=i+ys.length:=by rw[List.length_append,hl0,q2]
  have hlen:((fd B32 i A++(maUp B32 x W ys ys.length).1)++(W.drop ys.length++(0:Int)::R)).length=xs.length+ys.length:=by
   rw[List.length_append,hAl,List.length_append,List.length_drop,List.length_cons,hlw,hRl];omega
  have e1:¬((ys.length:Int)<(ys.length:Int)):=by omega
  have e3:(0:Int)<=((i+ys.length:Nat):Int):=by omega
  have e4:((i+ys.length:Nat):Int)<((xs.length+ys.length:Nat):Int):=by omega
  rw[hlen,<-Int.natCast_add i ys.length,wr (x:=((i+ys.length:Nat):Int)) (by omega) (by omega)];simp only[e1,e3,e4,decide_true,decide_false,if_true,if_false,Bool.false_eq_true,Nat.zero_add,Int.toNat_natCast];rw[List.drop_of_length_le (by omega),List.nil_append,mid_set hAl,w32 (by omega) (by omega),wr (x:=(i:Int)+1) (by omega) (by omega)];generalize maUp B32 x W ys ys.length=p at*;obtain⟨pl,c0⟩:=p;dsimp only at*;have hlt:=dval_lt q1;rw[q2]at hlt;have hpl:pl=fd B32 ys.length (A/B32^i+x*a0c B32 ys):=by
   have:=fd_eq a0e q1 q2 rfl;rw[this,<-q3,<-fd_mod B32 ys.length (_+_),Nat.add_mul_mod_self_left,fd_mod]
  have hc0:c0=(A/B32^i+x*a0c B32 ys)/B32^ys.length:=by
   rw[<-q3,Nat.add_mul_div_left _ _ (Nat.pow_pos (by decide)),Nat.div_eq_of_lt hlt,Nat.zero_add]
  rw[List.append_assoc _ [_],List.singleton_append,hpl,hc0,hnext];exact hg) hK
 rw[show(fd B32 i A++(maUp B32 x W ys 0).1)++(W.drop 0++(0:Int)::R)=(fd B32 i A++W)++(0:Int)::R by rw[show(maUp B32 x W ys 0).1=[]from rfl,List.append_nil,List.drop_zero,List.append_assoc]]at key;exact key
def S.i_nat_mul (x:((List Int)×((List Int)×Unit))):(Option ((List Int)×Unit)):=if dig B32 x.1=true/\dig B32 x.2.1=true/\x.1.length<=10000000000/\x.2.1.length<=10000000000 then some (nd B32 (a0c B32 x.1*a0c B32 x.2.1),())else none
theorem S.i_nat_mul_ok (x r) (h:S.i_nat_mul x=some r):∃k,P.i_nat_mul k x=some r:=by
 obtain⟨xs,ys,u⟩:=x;unfold S.i_nat_mul at h;dsimp only at h;split at h
 case isFalse=>cases h
 rename_i hc;obtain⟨dx,dy,lx,ly⟩:=hc;cases h;refine⟨xs.length+ys.length+1,?_⟩;unfold P.i_nat_mul;dsimp only;have a1:(0:Int)<=((xs.length+ys.length:Nat):Int):=by omega
 have a2:((xs.length+ys.length:Nat):Int)*4<=281474976710656:=by omega
 rw[<-Int.natCast_add,wr (x:=((xs.length+ys.length:Nat):Int)) (by omega) (by omega)];simp only[a1,a2,decide_true,if_true,Int.le_refl,Int.toNat_natCast];have key:=a0g (k:=xs.length+ys.length+1) (b:=P.i_nat_mul_b0 (xs.length+ys.length+1)) (n:=xs.length) (st:=fun i=>((i:Int),(xs.length:Int),xs,ys,fd B32 (xs.length+ys.length) (a0c B32 (xs.take i)*a0c B32 ys),())) (F:=fun i=>some (nd B32 (a0c B32 xs*a0c B32 ys),())) (fun i g hi hg=>by
  unfold P.i_nat_mul_b0;dsimp only at hg ⊢;have e1:(i:Int)<(xs.length:Int):=by omega
  have e2:(0:Int)<=(i:Int):=by omega
  simp only[e1,e2,decide_true,if_true,Int.toNat_natCast];exact im_inner g _ dx dy lx ly hi _ (by omega) hg) (fun g=>by
  unfold P.i_nat_mul_b0;dsimp only;rw[if_neg (by simp),List.take_length];unfold S.i_nat_trim;dsimp only;have hb:=mul_bound a0e dx dy xs.length (Nat.le_refl _);rw[List.take_length]at hb;rw[if_pos ⟨dig_fd (by decide) _ _,by rw[fd_len];omega⟩,Option.bind_some,nd_fd a0e hb]) (by omega)
 rw[List.take_zero,show a0c B32 []*a0c B32 ys=0 by simp [a0c],fd_zero]at key;exact key
def S.math_bits_LeadingZeros32 (x:(Int×Unit)):(Option (Int×Unit)):=if 0<=x.1/\x.1<=4294967295 then some (32 - (Go.Lib.bitLen x.1.toNat:Int),())else none
abbrev P.i_nat_shifted_b0 (x1:Int×Int×List Int×Int×List Int×Unit) (g2:Int×Int×List Int×Int×List Int×Unit->Option (List Int×Unit)):Option (List Int×Unit):=
 (fun(a b d:Int) (c e:List Int)=>if decide (a<b)then if decide (0<=a)then if decide (a<(c.length:Int))then if decide (d<0)then none else if decide (0<=a)then if decide (a<(e.length:Int))then if decide (0<=a)then if decide (a<(e.length:Int))then if decide (0<=(wrap .i64 (a+1)))then if decide ((wrap .i64 (a+1))<(List.length (e.set (0+a.toNat) (wrap .u32 ((BitVec.toNat ((BitVec.ofInt 32 (e.getD (0+a.toNat) 0))|||(BitVec.ofInt 32 (wrap .u32 (wrap .u64 ((wrap .u64 (c.getD a.toNat 0))*((2:Int)^(Min.min d.toNat 64))))))):Nat):Int))):Int))then g2 (wrap .i64 (a+1),b,c,d,List.set (e.set (0+a.toNat) (wrap .u32 ((BitVec.toNat ((BitVec.ofInt 32 (e.getD (0+a.toNat) 0))|||(BitVec.ofInt 32 (wrap .u32 (wrap .u64 ((wrap .u64 (c.getD a.toNat 0))*((2:Int)^(Min.min d.toNat 64))))))):Nat):Int))) (0+(Int.toNat (wrap .i64 (a+1)))) (wrap .u32 (Int.fdiv (wrap .u64 ((wrap .u64 (c.getD a.toNat 0))*((2:Int)^(Min.min d.toNat 64)))) 4294967296)),())else none else none else none else none else none else none else none else none else some (e,())) x1.1 x1.2.1 x1.2.2.2.1 x1.2.2.1 x1.2.2.2.2.1
def P.i_nat_shifted (k:Nat) (x:List Int×Int×Unit):Option (List Int×Unit):=
 if decide (0<=(wrap .i64 ((x.1.length:Int)+1)))then if decide ((wrap .i64 ((x.1.length:Int)+1))<=(wrap .i64 ((x.1.length:Int)+1)))then if decide (((wrap .i64 ((x.1.length:Int)+1))*4)<=281474976710656)then loopP P.i_nat_shifted_b0 k (0,(x.1.length:Int),x.1,x.2.1,List.replicate (Int.toNat (wrap .i64 ((x.1.length:Int)+1))) 0,())else none else none else none
def S.i_nat_shifted (x:((List Int)×(Int×Unit))):(Option ((List Int)×Unit)):=if dig B32 x.1=true/\0<=x.2.1/\x.2.1<=31/\x.1.length<=10000000000 then some (fd B32 (x.1.length+1) (a0c B32 x.1*2^x.2.1.toNat),())else none
theorem S.i_nat_shifted_ok (x r) (h:S.i_nat_shifted x=some r):∃k,P.i_nat_shifted k x=some r:=by
 obtain⟨xs,by',u⟩:=x;unfold S.i_nat_shifted at h;dsimp only at h;split at h
 case isFalse=>cases h
 rename_i hc;obtain⟨hd,hb0,hb1,hl⟩:=hc;cases h;obtain⟨s,rfl⟩:∃d:Nat,by'=(d:Int):=⟨by'.toNat,by omega⟩
 rw[Int.toNat_natCast];have hs:s<=31:=by omega
 have hpow:0<2^s:=Nat.pow_pos (by decide);have hpow32:2^s<=2147483648:=Nat.le_trans (Nat.pow_le_pow_right (by decide) hs) (by decide);refine⟨xs.length+1,?_⟩;unfold P.i_nat_shifted;dsimp only;rw[wr (by omega) (by omega)];have a1:(0:Int)<=(xs.length:Int)+1:=by omega
 have a3:((xs.length:Int)+1)*4<=281474976710656:=by omega
 rw[if_pos (decide_eq_true a1),if_pos (decide_eq_true (Int.le_refl _)),if_pos (decide_eq_true a3)];have e0:List.replicate ((xs.length:Int)+1).toNat (0:Int)=(mulUp B32 (2^s) xs 0).1++(((mulUp B32 (2^s) xs 0).2:Int)::List.replicate (xs.length - 0) 0):=by
  rw[show((xs.length:Int)+1).toNat=xs.length+1 by omega,List.replicate_succ];rfl
 rw[e0];have key:=a0g (k:=xs.length+1) (b:=P.i_nat_shifted_b0) (n:=xs.length) (st:=fun i=>((i:Int),(xs.length:Int),xs,(s:Int),(mulUp B32 (2^s) xs i).1++(((mulUp B32 (2^s) xs i).2:Int)::List.replicate (xs.length - i) 0),())) (F:=fun i=>some (fd B32 (xs.length+1) (a0c B32 xs*2^s),())) (fun i g hi hg=>by
  unfold P.i_nat_shifted_b0;dsimp only at hg ⊢;obtain⟨q1,q2,q3,q4⟩:=mulUp_ok (d:=2^s) a0e hd i (by omega);have hlen:((mulUp B32 (2^s) xs i).1++(((mulUp B32 (2^s) xs i).2:Int)::List.replicate (xs.length - i) 0)).length=xs.length+1:=by rw[List.length_append,q2,List.length_cons,List.length_replicate];omega
  have e1:(i:Int)<(xs.length:Int):=by omega
  have e2:(0:Int)<=(i:Int):=by omega
  have e3:(i:Int)<((xs.length+1:Nat):Int):=by omega
  have e4:¬((s:Int)<0):=by omega
  rw[hlen];simp only[e1,e2,e3,e4,decide_true,decide_false,if_true,Nat.zero_add,Int.toNat_natCast,List.length_set,hlen,Bool.false_eq_true,if_false];rw[wr (x:=(i:Int)+1) (by omega) (by omega)];have e5:(0:Int)<=(i:Int)+1:=by omega
  have e6:(i:Int)+1<((xs.length+1:Nat):Int):=by omega
  simp only[e5,e6,decide_true,if_true];have hgD:xs.getD i 0=xs[i]:=by simp [hi]
  have hx:=dig_get hd hi;have hx1:xs[i]<4294967296:=hx.2;have hx0:=hx.1;rw[mulUp,hgD]at hg;rw[hgD];have hcar:(mulUp B32 (2^s) xs i).2<2^s:=by
   have h1:a0c B32 (xs.take i)<B32^i:=by
    have h0:dig B32 (xs.take i)=true:=by
     have:=List.take_append_drop i xs;rw[<-this,dig_append,Bool.and_eq_true]at hd;exact hd.1
    have:=dval_lt h0;rwa [show(xs.take i).length=i by simp;omega]at this
   have h2:a0c B32 (xs.take i)*2^s<B32^i*2^s:=Nat.mul_lt_mul_of_pos_right h1 hpow;exact Nat.lt_of_mul_lt_mul_left (a:=B32^i) (by omega)
  generalize hP:mulUp B32 (2^s) xs i=p at*;obtain⟨z,hz⟩:∃z:Nat,xs[i]=(z:Int):=⟨xs[i].toNat,(Int.toNat_of_nonneg hx0).symm⟩
  rw[hz]at hx1 hg ⊢;rw[Int.toNat_natCast]at hg;have hz32:z<2^32:=by omega
  have hzp:z*2^s<18446744073709551616:=Nat.lt_of_lt_of_le (Nat.mul_lt_mul_of_pos_right hz32 hpow) (by have:=Nat.mul_le_mul_left (2^32) hpow32;omega);have emin:Min.min s 64=s:=by omega
  have ep:((2:Int)^s)=((2^s:Nat):Int):=by rw[Int.natCast_pow];rfl
  have em:(z:Int)*((2^s:Nat):Int)=((z*2^s:Nat):Int):=(Int.natCast_mul _ _).symm;rw[wu (x:=(z:Int)) (by omega) (by omega),emin,ep,em,wu (x:=((z*2^s:Nat):Int)) (by omega) (by omega)];have g1:(p.1++((p.2:Int)::List.replicate (xs.length - i) 0)).getD i 0=(p.2:Int):=by
   rw[List.getD_eq_getElem?_getD,List.getElem?_append_right (by omega),q2,Nat.sub_self];rfl
  rw[g1,u32_mod ((z*2^s:Nat):Int) (by omega)];have e7:((z*2^s:Nat):Int)%4294967296=((z*2^s%2^32:Nat):Int):=by
   show _=((z*2^s%4294967296:Nat):Int)
   omega
  have hlow:=shl_low z s (by omega);have hor:p.2|||(z*2^s%2^32)=p.2+z*2^s%2^32:=by rw[hlow,or_apart _ _ _ hcar]
  have hmlt:z*2^s%2^32<2^32:=Nat.mod_lt _ (by decide);have hsum:p.2+z*2^s%2^32<2^32:=by
   have h1:z%2^(32 - s)+1<=2^(32 - s):=Nat.mod_lt _ (Nat.pow_pos (by decide));have h2:2^s*(z%2^(32 - s)+1)<=2^s*2^(32 - s):=Nat.mul_le_mul_left _ h1;rw[<-Nat.pow_add,show s+(32 - s)=32 by omega,Nat.mul_add]at h2;omega
  rw[e7,bv_or _ _ (by omega) hmlt,hor,w32 (by omega) (by omega),Int.fdiv_eq_ediv_of_nonneg _ (by omega)];have hq:z*2^s/4294967296<4294967296:=(Nat.div_lt_iff_lt_mul (by decide)).2 (by omega);have e8:((z*2^s:Nat):Int)/4294967296=((z*2^s/4294967296:Nat):Int):=by omega
  rw[e8,w32 (by omega) (by omega)];have e9:(z*2^s+p.2)%B32=p.2+z*2^s%2^32:=by
   show(z*2^s+p.2)%4294967296=p.2+z*2^s%4294967296;omega
  have e10:(z*2^s+p.2)/B32=z*2^s/4294967296:=by
   show(z*2^s+p.2)/4294967296=_;omega
  rw[e9,e10]at hg;have z1:xs.length - i=(xs.length - (i+1))+1:=by omega
  rw[z1,List.replicate_succ,List.set_append_right _ _ (by omega),q2,Nat.sub_self,List.set_cons_zero,List.set_append_right _ _ (by omega),q2,show((i:Int)+1).toNat - i=1 by omega,List.set_cons_succ,List.set_cons_zero];rw[List.append_assoc]at hg;exact hg) (fun g=>by
  unfold P.i_nat_shifted_b0;dsimp only;obtain⟨q1,q2,q3,q4⟩:=mulUp_ok (d:=2^s) a0e hd xs.length (Nat.le_refl _);rw[List.take_length]at q3;have hcar:(mulUp B32 (2^s) xs xs.length).2<2^s:=by
   have h2:a0c B32 xs*2^s<B32^xs.length*2^s:=Nat.mul_lt_mul_of_pos_right (dval_lt hd) hpow;exact Nat.lt_of_mul_lt_mul_left (a:=B32^xs.length) (by omega)
  rw[if_neg (by simp),Nat.sub_self];generalize mulUp B32 (2^s) xs xs.length=p at*;have hdd:dig B32 (p.1++[(p.2:Int)])=true:=by
   rw[dig_append,q1,Bool.true_and,dig_cons];refine⟨⟨Int.natCast_nonneg _,?_⟩,rfl⟩;show(p.2:Int)<4294967296;omega
  have:=fd_dval (B:=B32) (by decide) hdd;rw[a0z,q2,show a0c B32 [(p.2:Int)]=p.2 by simp [a0c],q3,List.length_append,q2]at this;show some (p.1++[(p.2:Int)],())=_;rw[<-this];rfl) (by omega)
 exact key
abbrev i_takeAway.A:=Option (Bool×List Int×Unit)
abbrev P.i_takeAway_b3 (x4:Int×Int×Int×List Int×List Int×Unit) (g5:Int×Int×Int×List Int×List Int×Unit->i_takeAway.A):i_takeAway.A:=
 (fun(a b c:Int) (d e:List Int)=>if decide (a<b)then if decide (0<=a)then if decide (a<(d.length:Int))then if decide (a<(e.length:Int))then if decide (0<=a)then if decide (a<(e.length:Int))then if decide (0<=a)then if decide (a<(d.length:Int))then g5 (wrap .i64 (a+1),b,Int.fdiv (wrap .u64 ((wrap .u64 (c+(wrap .u64 (d.getD (0+a.toNat) 0))))+(wrap .u64 (e.getD a.toNat 0)))) 4294967296,d.set (0+a.toNat) (wrap .u32 (wrap .u64 ((wrap .u64 (c+(wrap .u64 (d.getD (0+a.toNat) 0))))+(wrap .u64 (e.getD a.toNat 0))))),e,())else none else none else none else none else if decide (0<=a)then if decide (a<(d.length:Int))then g5 (wrap .i64 (a+1),b,Int.fdiv (wrap .u64 (c+(wrap .u64 (d.getD (0+a.toNat) 0)))) 4294967296,d.set (0+a.toNat) (wrap .u32 (wrap .u64 (c+(wrap .u64 (d.getD (0+a.toNat) 0))))),e,())else none else none else none else none else some (true,d,())) x4.1 x4.2.1 x4.2.2.1 x4.2.2.2.1 x4.2.2.2.2.1
abbrev P.i_takeAway_b0 (k:Nat) (x1:Int×Int×List Int×Int×Int×List Int×Int×Unit) (g2:Int×Int×List Int×Int×Int×List Int×Int×Unit->i_takeAway.A):i_takeAway.A:=
 (fun(a b d e h:Int) (c f:List Int)=>if decide (a<b)then if decide (a<(c.length:Int))then if decide (0<=a)then if decide (a<(c.length:Int))then if decide (0<=a)then if decide (a<(f.length:Int))then if decide ((wrap .i64 ((wrap .i64 ((wrap .i64 (f.getD (0+a.toNat) 0)) - (wrap .i64 (wrap .u32 (wrap .u64 (d+(wrap .u64 (e*(wrap .u64 (c.getD a.toNat 0)))))))))) - h))<0)then if decide (0<=a)then if decide (a<(f.length:Int))then g2 (wrap .i64 (a+1),b,c,Int.fdiv (wrap .u64 (d+(wrap .u64 (e*(wrap .u64 (c.getD a.toNat 0)))))) 4294967296,e,f.set (0+a.toNat) (wrap .u32 (wrap .i64 ((wrap .i64 ((wrap .i64 (f.getD (0+a.toNat) 0)) - (wrap .i64 (wrap .u32 (wrap .u64 (d+(wrap .u64 (e*(wrap .u64 (c.getD a.toNat 0)))))))))) - h))),1,())else none else none else if decide (0<=a)then if decide (a<(f.length:Int))then g2 (wrap .i64 (a+1),b,c,Int.fdiv (wrap .u64 (d+(wrap .u64 (e*(wrap .u64 (c.getD a.toNat 0)))))) 4294967296,e,f.set (0+a.toNat) (wrap .u32 (wrap .i64 ((wrap .i64 ((wrap .i64 (f.getD (0+a.toNat) 0)) - (wrap .i64 (wrap .u32 (wrap .u64 (d+(wrap .u64 (e*(wrap .u64 (c.getD a.toNat 0)))))))))) - h))),0,())else none else none else none else none else none else none else if decide (0<=a)then if decide (a<(f.length:Int))then if decide ((wrap .i64 ((wrap .i64 ((wrap .i64 (f.getD (0+a.toNat) 0)) - (wrap .i64 (wrap .u32 d)))) - h))<0)then if decide (0<=a)then if decide (a<(f.length:Int))then g2 (wrap .i64 (a+1),b,c,Int.fdiv d 4294967296,e,f.set (0+a.toNat) (wrap .u32 (wrap .i64 ((wrap .i64 ((wrap .i64 (f.getD (0+a.toNat) 0)) - (wrap .i64 (wrap .u32 d)))) - h))),1,())else none else none else if decide (0<=a)then if decide (a<(f.length:Int))then g2 (wrap .i64 (a+1),b,c,Int.fdiv d 4294967296,e,f.set (0+a.toNat) (wrap .u32 (wrap .i64 ((wrap .i64 ((wrap .i64 (f.getD (0+a.toNat) 0)) - (wrap .i64 (wrap .u32 d)))) - h))),0,())else none else none else none else none else if h==0 then if d==0 then some (false,f,())else loopP P.i_takeAway_b3 k (0,(f.length:Int),0,f,c,())else loopP P.i_takeAway_b3 k (0,(f.length:Int),0,f,c,())) x1.1 x1.2.1 x1.2.2.2.1 x1.2.2.2.2.1 x1.2.2.2.2.2.2.1 x1.2.2.1 x1.2.2.2.2.2.1
def P.i_takeAway (k:Nat) (x:List Int×List Int×Int×Unit):i_takeAway.A:=
 loopP (P.i_takeAway_b0 k) k (0,(x.1.length:Int),x.2.1,0,x.2.2.1,x.1,0,())
theorem takeBack (b:(Int×(Int×(Int×((List Int)×((List Int)×Unit)))))->((Int×(Int×(Int×((List Int)×((List Int)×Unit)))))->Option (Bool×((List Int)×Unit)))->Option (Bool×((List Int)×Unit))) (hb:b=P.i_takeAway_b3)
  (xs ys:List Int) (hx:dig B32 xs=true) (hy:dig B32 ys=true) (hl:ys.length<=xs.length) (hbig:xs.length<=100000000000):
  loopP b (xs.length+1) ((0:Int),((xs.length:Int),((0:Int),(xs,(ys,())))))=some (true,fd B32 xs.length (a0c B32 xs+a0c B32 ys),()):=by
 subst hb;have key:=a0g (k:=xs.length+1) (b:=P.i_takeAway_b3) (n:=xs.length) (st:=fun i=>((i:Int),(xs.length:Int),((addUp B32 xs ys i).2:Int),(addUp B32 xs ys i).1++xs.drop i,ys,())) (F:=fun i=>some (true,fd B32 xs.length (a0c B32 xs+a0c B32 ys),())) (fun i g hi hg=>by
  unfold P.i_takeAway_b3;dsimp only at hg ⊢;obtain⟨q1,q2,q3,q4⟩:=addUp_ok a0e hx hy i;have gx:=a1d (B:=B32) (by decide) hx i;have gy:=a1d (B:=B32) (by decide) hy i;have gx1:xs.getD i 0<4294967296:=gx.2;have gy1:ys.getD i 0<4294967296:=gy.2;have gx0:=gx.1;have gy0:=gy.1;have hlen:((addUp B32 xs ys i).1++xs.drop i).length=xs.length:=by rw[List.length_append,q2,List.length_drop];omega
  have e1:(i:Int)<(xs.length:Int):=by omega
  have e2:(0:Int)<=(i:Int):=by omega
  rw[hlen];simp only[e1,e2,decide_true,if_true,Nat.zero_add,Int.toNat_natCast];rw[drop_cons_getD hi,mid_get q2];simp only[mid_set q2];have hnat:∀n:Nat,n=(addUp B32 xs ys i).2+(xs.getD i 0).toNat+(ys.getD i 0).toNat->(((n%B32:Nat):Int)=(n:Int)%4294967296/\((n/B32:Nat):Int)=(n:Int)/4294967296):=by
   intro n _;constructor
   ·show((n%4294967296:Nat):Int)=_;omega
   ·show((n/4294967296:Nat):Int)=_;omega
  obtain⟨n1,n2⟩:=hnat _ rfl;rw[addUp]at hg;dsimp only at hg;rw[n1,n2]at hg
  by_cases hj:(i:Int)<(ys.length:Int)
  ·rw[if_pos (decide_eq_true hj),if_pos (decide_eq_true hj)];rw[wu (x:=xs.getD i 0) (by omega) (by omega),wu (x:=ys.getD i 0) (by omega) (by omega),wu (x:=((addUp B32 xs ys i).2:Int)+xs.getD i 0) (by omega) (by omega),wu (x:=((addUp B32 xs ys i).2:Int)+xs.getD i 0+ys.getD i 0) (by omega) (by omega),u32_mod _ (by omega),Int.fdiv_eq_ediv_of_nonneg _ (by omega),wr (by omega) (by omega)];have e:(((addUp B32 xs ys i).2+(xs.getD i 0).toNat+(ys.getD i 0).toNat:Nat):Int)=((addUp B32 xs ys i).2:Int)+xs.getD i 0+ys.getD i 0:=by omega
   rw[e]at hg;exact hg
  ·rw[if_neg (by simpa using hj)];have y0:ys.getD i 0=0:=by rw[List.getD_eq_getElem?_getD,List.getElem?_eq_none (by omega)];rfl
   rw[wu (x:=xs.getD i 0) (by omega) (by omega),wu (x:=((addUp B32 xs ys i).2:Int)+xs.getD i 0) (by omega) (by omega),u32_mod _ (by omega),Int.fdiv_eq_ediv_of_nonneg _ (by omega),wr (by omega) (by omega)];have e:(((addUp B32 xs ys i).2+(xs.getD i 0).toNat+(ys.getD i 0).toNat:Nat):Int)=((addUp B32 xs ys i).2:Int)+xs.getD i 0:=by omega
   rw[e]at hg;exact hg) (fun g=>by
  unfold P.i_takeAway_b3;dsimp only;rw[if_neg (by simp),List.drop_length,List.append_nil,addUp_fd a0e hx hy hl]) (by omega)
 have e0:(addUp B32 xs ys 0).1++xs.drop 0=xs:=rfl;rw[e0]at key;exact key
def S.i_takeAway (x:((List Int)×((List Int)×(Int×Unit)))):(Option (Bool×((List Int)×Unit))):=
 if dig B32 x.1=true/\dig B32 x.2.1=true/\0<=x.2.2.1/\x.2.2.1<4294967296/\x.2.1.length<=x.1.length/\x.1.length<=10000000000/\a0c B32 x.2.1*x.2.2.1.toNat<=a0c B32 x.1+a0c B32 x.2.1 then
  (if a0c B32 x.2.1*x.2.2.1.toNat<=a0c B32 x.1 then some (false,fd B32 x.1.length (a0c B32 x.1 - a0c B32 x.2.1*x.2.2.1.toNat),())
   else some (true,fd B32 x.1.length (a0c B32 x.1+a0c B32 x.2.1 - a0c B32 x.2.1*x.2.2.1.toNat),()))else none
theorem S.i_takeAway_ok (x r) (h:S.i_takeAway x=some r):∃k,P.i_takeAway k x=some r:=by
 obtain⟨xs,ys,t',u⟩:=x;unfold S.i_takeAway at h;dsimp only at h;split at h
 case isFalse=>cases h
 rename_i hc;obtain⟨hx,hy,ht0,ht1,hl,hbig,hfit⟩:=hc;obtain⟨t,rfl⟩:∃d:Nat,t'=(d:Int):=⟨t'.toNat,by omega⟩
 rw[Int.toNat_natCast]at h hfit;have ht:t<=4294967295:=by omega
 refine⟨xs.length+1,?_⟩;rw[<-h];unfold P.i_takeAway;dsimp only;have key:=a0g (k:=xs.length+1) (b:=P.i_takeAway_b0 (xs.length+1)) (n:=xs.length) (st:=fun i=>((i:Int),(xs.length:Int),ys,((takeUp B32 t xs ys i).2.1:Int),(t:Int),(takeUp B32 t xs ys i).1++xs.drop i,((takeUp B32 t xs ys i).2.2:Int),())) (F:=fun i=>(if a0c B32 ys*t<=a0c B32 xs then some (false,fd B32 xs.length (a0c B32 xs - a0c B32 ys*t),())
   else some (true,fd B32 xs.length (a0c B32 xs+a0c B32 ys - a0c B32 ys*t),()))) (fun i g hi hg=>by
  unfold P.i_takeAway_b0;dsimp only at hg ⊢;obtain⟨q1,q2,q3,q4,q5⟩:=takeUp_ok (t:=t) a0e hx hy i;have gx:=a1d (B:=B32) (by decide) hx i;have gy:=a1d (B:=B32) (by decide) hy i;have gx1:xs.getD i 0<4294967296:=gx.2;have gy1:ys.getD i 0<4294967296:=gy.2;have gx0:=gx.1;have gy0:=gy.1;have hlen:((takeUp B32 t xs ys i).1++xs.drop i).length=xs.length:=by rw[List.length_append,q2,List.length_drop];omega
  have e1:(i:Int)<(xs.length:Int):=by omega
  have e2:(0:Int)<=(i:Int):=by omega
  rw[hlen];simp only[e1,e2,decide_true,if_true,Nat.zero_add,Int.toNat_natCast];rw[drop_cons_getD hi,mid_get q2];simp only[mid_set q2];rw[takeUp]at hg;dsimp only at hg;have y0:¬((i:Int)<(ys.length:Int))->ys.getD i 0=0:=by
   intro hj;rw[List.getD_eq_getElem?_getD,List.getElem?_eq_none (by omega)];rfl
  generalize xs.getD i 0=x at*;generalize ys.getD i 0=y at*;generalize takeUp B32 t xs ys i=p at*;obtain⟨pl,c0,l0⟩:=p;dsimp only at*;obtain⟨Y,rfl⟩:∃Y:Nat,y=(Y:Int):=⟨y.toNat,by omega⟩
  rw[Int.toNat_natCast]at hg;have htY:t*Y<=4294967295*4294967295:=Nat.mul_le_mul ht (by omega);have em:(t:Int)*(Y:Int)=((t*Y:Nat):Int):=(Int.natCast_mul _ _).symm;have fin:∀c:Nat,c=c0+t*Y->(let n:=IntKind.wrap .i64 (IntKind.wrap .i64 (IntKind.wrap .i64 x - IntKind.wrap .i64 (IntKind.wrap .u32 (c:Int))) - (l0:Int))
    (if decide (n<0)=true then g (IntKind.wrap .i64 ((i:Int)+1),(xs.length:Int),ys,Int.fdiv (c:Int) 4294967296,(t:Int),(pl++[IntKind.wrap .u32 n])++xs.drop (i+1),1,())
     else g (IntKind.wrap .i64 ((i:Int)+1),(xs.length:Int),ys,Int.fdiv (c:Int) 4294967296,(t:Int),(pl++[IntKind.wrap .u32 n])++xs.drop (i+1),0,()))=(if a0c B32 ys*t<=a0c B32 xs then some (false,fd B32 xs.length (a0c B32 xs - a0c B32 ys*t),())
   else some (true,fd B32 xs.length (a0c B32 xs+a0c B32 ys - a0c B32 ys*t),()))):=by
   intro c hcc;rw[<-hcc]at hg;have e8:(c:Int)%4294967296=((c%B32:Nat):Int):=by
    show _=((c%4294967296:Nat):Int)
    omega
   have e9:Int.fdiv (c:Int) 4294967296=((c/B32:Nat):Int):=by
    rw[Int.fdiv_eq_ediv_of_nonneg _ (by omega)];show _=((c/4294967296:Nat):Int)
    omega
   have e10:c%B32<4294967296:=Nat.mod_lt _ (by decide);rw[u32_mod (c:Int) (by omega),e8,e9,wr (x:=(i:Int)+1) (by omega) (by omega),wr (x:=x) (by omega) (by omega),wr (x:=((c%B32:Nat):Int)) (by omega) (by omega),wr (x:=x - ((c%B32:Nat):Int)) (by omega) (by omega),wr (x:=x - ((c%B32:Nat):Int) - (l0:Int)) (by omega) (by omega)];dsimp only;rw[u32_emod]
   by_cases hn:x - ((c%B32:Nat):Int) - (l0:Int)<0
   ·rw[if_pos hn]at hg;rw[if_pos (decide_eq_true hn)];exact hg
   ·rw[if_neg hn]at hg;rw[if_neg (by simpa using hn)];exact hg
  by_cases hj:(i:Int)<(ys.length:Int)
  ·simp only[hj,decide_true,if_true];rw[wu (x:=(Y:Int)) (by omega) (by omega),em,wu (x:=((t*Y:Nat):Int)) (by omega) (by omega),<-Int.natCast_add,wu (x:=((c0+t*Y:Nat):Int)) (by omega) (by omega)];exact fin _ rfl
  ·rw[if_neg (by simpa using hj)];have hY:Y=0:=by have:=y0 hj;omega
   subst hY;exact fin c0 rfl) (fun g=>by
  unfold P.i_takeAway_b0;dsimp only;obtain⟨q1,q2,q3,q4,q5⟩:=takeUp_ok (t:=t) a0e hx hy xs.length;rw[List.take_length,List.take_of_length_le hl]at q3;rw[if_neg (by simp),List.drop_length,List.append_nil];generalize takeUp B32 t xs ys xs.length=p at*;obtain⟨pl,c0,l0⟩:=p;dsimp only at*;have hlt:=dval_lt q1;rw[q2]at hlt;have hback:∀b,b=P.i_takeAway_b3->0<c0+l0->loopP b (xs.length+1) ((0:Int),((pl.length:Int),((0:Int),(pl,(ys,())))))=(if a0c B32 ys*t<=a0c B32 xs then some (false,fd B32 xs.length (a0c B32 xs - a0c B32 ys*t),())
   else some (true,fd B32 xs.length (a0c B32 xs+a0c B32 ys - a0c B32 ys*t),())):=by
   intro b hb hpos;have hge:B32^xs.length*1<=B32^xs.length*(c0+l0):=Nat.mul_le_mul_left _ hpos;rw[if_neg (by omega)];have:=takeBack b hb pl ys q1 hy (by omega) (by omega);rw[q2]at this;rw[q2,this];congr 2;have e1:a0c B32 pl+a0c B32 ys=(a0c B32 xs+a0c B32 ys - a0c B32 ys*t)+B32^xs.length*(c0+l0):=by omega
   rw[e1,<-fd_mod B32 xs.length (_+_),Nat.add_mul_mod_self_left,fd_mod]
  by_cases hl0:l0=0
  ·subst hl0;rw[if_pos (by rfl)]
   by_cases hc0:c0=0
   ·subst hc0;rw[if_pos (by rfl),if_pos (by omega)];congr 2;have:pl=fd B32 xs.length (a0c B32 xs - a0c B32 ys*t):=fd_eq a0e q1 q2 (by omega);rw[this]
   ·rw[if_neg (by simp;omega)];exact hback _ rfl (by omega)
  ·rw[if_neg (by simp;omega)];exact hback _ rfl (by omega)) (by omega)
 exact key
abbrev i_nat_div.A:=Int×Int×Int×List Int×Int×Int×Int×List Int×List Int×Int×Unit
abbrev i_nat_div.B:=Int×List Int×List Int×Int×Int×List Int×Int×Unit
abbrev i_nat_div.C:=Option ((List Int×List Int)×Unit)
abbrev P.i_nat_div_b21 (g20:i_nat_div.B->i_nat_div.C) (x22:i_nat_div.A) (g23:i_nat_div.A->i_nat_div.C):i_nat_div.C:=
 (fun(a b c e f h l:Int) (d i j:List Int)=>if decide (a>=4294967296)then if decide ((wrap .u64 (c+f))>=4294967296)then if decide (0<=(wrap .i64 (e+1)))then if decide (((wrap .i64 (e+1))+0)<=(d.length:Int))then if decide (0<=h)then if decide (h<=(wrap .i64 (e+1)))then(S.i_takeAway (seen d (0+h.toNat) ((Int.toNat (wrap .i64 (e+1))) - h.toNat),i,wrap .u64 (a - 1),())).bind fun y24=>if y24.1 then if decide (0<=h)then if decide (h<(j.length:Int))then g20 (wrap .i64 (h - 1),i,splice d y24.2.1 (0+h.toNat),f,b,j.set (0+h.toNat) (wrap .u32 (wrap .u64 ((wrap .u64 (a - 1)) - 1))),l,())else none else none else if decide (0<=h)then if decide (h<(j.length:Int))then g20 (wrap .i64 (h - 1),i,splice d y24.2.1 (0+h.toNat),f,b,j.set (0+h.toNat) (wrap .u32 (wrap .u64 (a - 1))),l,())else none else none else none else none else none else none else g23 (wrap .u64 (a - 1),b,wrap .u64 (c+f),d,e,f,h,i,j,l,())else if decide (0<=(wrap .i64 (e - 2)))then if decide ((wrap .i64 (e - 2))<(d.length:Int))then if decide ((wrap .u64 (a*b))>(wrap .u64 ((wrap .u64 (c*4294967296))+(wrap .u64 (d.getD (0+(Int.toNat (wrap .i64 (e - 2)))) 0)))))then if decide ((wrap .u64 (c+f))>=4294967296)then if decide (0<=(wrap .i64 (e+1)))then if decide (((wrap .i64 (e+1))+0)<=(d.length:Int))then if decide (0<=h)then if decide (h<=(wrap .i64 (e+1)))then(S.i_takeAway (seen d (0+h.toNat) ((Int.toNat (wrap .i64 (e+1))) - h.toNat),i,wrap .u64 (a - 1),())).bind fun y25=>if y25.1 then if decide (0<=h)then if decide (h<(j.length:Int))then g20 (wrap .i64 (h - 1),i,splice d y25.2.1 (0+h.toNat),f,b,j.set (0+h.toNat) (wrap .u32 (wrap .u64 ((wrap .u64 (a - 1)) - 1))),l,())else none else none else if decide (0<=h)then if decide (h<(j.length:Int))then g20 (wrap .i64 (h - 1),i,splice d y25.2.1 (0+h.toNat),f,b,j.set (0+h.toNat) (wrap .u32 (wrap .u64 (a - 1))),l,())else none else none else none else none else none else none else g23 (wrap .u64 (a - 1),b,wrap .u64 (c+f),d,e,f,h,i,j,l,())else if decide (0<=(wrap .i64 (e+1)))then if decide (((wrap .i64 (e+1))+0)<=(d.length:Int))then if decide (0<=h)then if decide (h<=(wrap .i64 (e+1)))then(S.i_takeAway (seen d (0+h.toNat) ((Int.toNat (wrap .i64 (e+1))) - h.toNat),i,a,())).bind fun y26=>if y26.1 then if decide (0<=h)then if decide (h<(j.length:Int))then g20 (wrap .i64 (h - 1),i,splice d y26.2.1 (0+h.toNat),f,b,j.set (0+h.toNat) (wrap .u32 (wrap .u64 (a - 1))),l,())else none else none else if decide (0<=h)then if decide (h<(j.length:Int))then g20 (wrap .i64 (h - 1),i,splice d y26.2.1 (0+h.toNat),f,b,j.set (0+h.toNat) (wrap .u32 a),l,())else none else none else none else none else none else none else none else none) x22.1 x22.2.1 x22.2.2.1 x22.2.2.2.2.1 x22.2.2.2.2.2.1 x22.2.2.2.2.2.2.1 x22.2.2.2.2.2.2.2.2.2.1 x22.2.2.2.1 x22.2.2.2.2.2.2.2.1 x22.2.2.2.2.2.2.2.2.1
abbrev P.i_nat_div_b27 (x28:Int×Int×List Int×Int×List Int×Unit) (g29:Int×Int×List Int×Int×List Int×Unit->i_nat_div.C):i_nat_div.C:=
 (fun(a b d:Int) (c e:List Int)=>if decide (a<b)then if decide ((wrap .i64 (a+1))<(c.length:Int))then if decide (0<=(wrap .i64 (a+1)))then if decide ((wrap .i64 (a+1))<(c.length:Int))then if decide (0<=a)then if decide (a<(c.length:Int))then if decide (d<0)then none else if decide (0<=a)then if decide (a<(c.length:Int))then g29 (wrap .i64 (a+1),b,c.set (0+a.toNat) (wrap .u32 (Int.fdiv (wrap .u64 ((wrap .u64 ((wrap .u64 (c.getD (0+(Int.toNat (wrap .i64 (a+1)))) 0))*4294967296))+(wrap .u64 (c.getD (0+a.toNat) 0)))) ((2:Int)^(Min.min d.toNat 64)))),d,e,())else none else none else none else none else none else none else if decide (0<=a)then if decide (a<(c.length:Int))then if decide (d<0)then none else if decide (0<=a)then if decide (a<(c.length:Int))then g29 (wrap .i64 (a+1),b,c.set (0+a.toNat) (wrap .u32 (Int.fdiv (wrap .u64 (0+(wrap .u64 (c.getD (0+a.toNat) 0)))) ((2:Int)^(Min.min d.toNat 64)))),d,e,())else none else none else none else none else if decide (e.length<=1000000000000)then if decide (c.length<=1000000000000)then some ((List.take (List.length (List.dropWhile (fun(y30:Int)=>y30==0) (List.reverseAux e []))) e,List.take (List.length (List.dropWhile (fun(y31:Int)=>y31==0) (List.reverseAux c []))) c),())else none else none) x28.1 x28.2.1 x28.2.2.2.1 x28.2.2.1 x28.2.2.2.2.1
abbrev P.i_nat_div_b18 (k:Nat) (x19:i_nat_div.B) (g20:i_nat_div.B->i_nat_div.C):i_nat_div.C:=
 (fun(a d e h:Int) (b c f:List Int)=>if decide (a>=0)then if decide (0<=(wrap .i64 (a+(b.length:Int))))then if decide ((wrap .i64 (a+(b.length:Int)))<(c.length:Int))then if decide (0<=(wrap .i64 ((wrap .i64 (a+(b.length:Int))) - 1)))then if decide ((wrap .i64 ((wrap .i64 (a+(b.length:Int))) - 1))<(c.length:Int))then if decide (d=0)then none else if decide (d=0)then none else loopP (P.i_nat_div_b21 g20) k (wrap .u64 (Int.tdiv (wrap .u64 ((wrap .u64 ((wrap .u64 (c.getD (0+(Int.toNat (wrap .i64 (a+(b.length:Int))))) 0))*4294967296))+(wrap .u64 (c.getD (0+(Int.toNat (wrap .i64 ((wrap .i64 (a+(b.length:Int))) - 1)))) 0)))) d),e,Int.tmod (wrap .u64 ((wrap .u64 ((wrap .u64 (c.getD (0+(Int.toNat (wrap .i64 (a+(b.length:Int))))) 0))*4294967296))+(wrap .u64 (c.getD (0+(Int.toNat (wrap .i64 ((wrap .i64 (a+(b.length:Int))) - 1)))) 0)))) d,c,wrap .i64 (a+(b.length:Int)),d,a,b,f,h,())else none else none else none else none else if decide (c.length<=1000000000000)then loopP P.i_nat_div_b27 k (0,(List.length (List.take (List.length (List.dropWhile (fun(y32:Int)=>y32==0) (List.reverseAux c []))) c):Int),List.take (List.length (List.dropWhile (fun(y33:Int)=>y33==0) (List.reverseAux c []))) c,h,f,())else none) x19.1 x19.2.2.2.1 x19.2.2.2.2.1 x19.2.2.2.2.2.2.1 x19.2.1 x19.2.2.1 x19.2.2.2.2.2.1
def P.i_nat_div (k:Nat) (x:List Int×List Int×Unit):i_nat_div.C:=
 (S.i_nat_cmp (x.1,x.2.1,())).bind fun y0=>if decide (y0.1<0)then some (([],x.1),())else if(x.2.1.length:Int)==1 then if decide (0<(x.2.1.length:Int))then(S.i_nat_divSmall (x.1,x.2.1.getD 0 0,())).bind fun y1=>if decide ((List.length [y1.1.2])<=1000000000000)then some ((y1.1.1,List.take (List.length (List.filter.match_1 (fun(y2:Bool)=>List Int) (y1.1.2==0) (fun(y3:Unit)=>[]) (fun(y4:Unit)=>[y1.1.2]))) [y1.1.2]),())else none else none else if decide (0<=(wrap .i64 ((x.2.1.length:Int) - 1)))then if decide ((wrap .i64 ((x.2.1.length:Int) - 1))<(x.2.1.length:Int))then(S.math_bits_LeadingZeros32 (x.2.1.getD (Int.toNat (wrap .i64 ((x.2.1.length:Int) - 1))) 0,())).bind fun y5=>(S.i_nat_shifted (x.1,y5.1,())).bind fun y6=>(S.i_nat_shifted (x.2.1,y5.1,())).bind fun y7=>if decide (y7.1.length<=1000000000000)then if decide (0<=(wrap .i64 ((List.length (List.take (List.length (List.dropWhile (fun(y8:Int)=>y8==0) (List.reverseAux y7.1 []))) y7.1):Int) - 1)))then if decide ((wrap .i64 ((List.length (List.take (List.length (List.dropWhile (fun(y9:Int)=>y9==0) (List.reverseAux y7.1 []))) y7.1):Int) - 1))<(List.length (List.take (List.length (List.dropWhile (fun(y10:Int)=>y10==0) (List.reverseAux y7.1 []))) y7.1):Int))then if decide (0<=(wrap .i64 ((List.length (List.take (List.length (List.dropWhile (fun(y11:Int)=>y11==0) (List.reverseAux y7.1 []))) y7.1):Int) - 2)))then if decide ((wrap .i64 ((List.length (List.take (List.length (List.dropWhile (fun(y12:Int)=>y12==0) (List.reverseAux y7.1 []))) y7.1):Int) - 2))<(List.length (List.take (List.length (List.dropWhile (fun(y13:Int)=>y13==0) (List.reverseAux y7.1 []))) y7.1):Int))then if decide (0<=(wrap .i64 ((y6.1.length:Int) - (List.length (List.take (List.length (List.dropWhile (fun(y14:Int)=>y14==0) (List.reverseAux y7.1 []))) y7.1):Int))))then if decide ((wrap .i64 ((y6.1.length:Int) - (List.length (List.take (List.length (List.dropWhile (fun(y15:Int)=>y15==0) (List.reverseAux y7.1 []))) y7.1):Int)))<=(wrap .i64 ((y6.1.length:Int) - (List.length (List.take (List.length (List.dropWhile (fun(y16:Int)=>y16==0) (List.reverseAux y7.1 []))) y7.1):Int))))then if decide (((wrap .i64 ((y6.1.length:Int) - (List.length (List.take (List.length (List.dropWhile (fun(y17:Int)=>y17==0) (List.reverseAux y7.1 []))) y7.1):Int)))*4)<=281474976710656)then loopP (P.i_nat_div_b18 k) k (wrap .i64 ((List.length (List.replicate (Int.toNat (wrap .i64 ((y6.1.length:Int) - (List.length (List.take (List.length (List.dropWhile (fun(y34:Int)=>y34==0) (List.reverseAux y7.1 []))) y7.1):Int)))) (0:Int)):Int) - 1),List.take (List.length (List.dropWhile (fun(y35:Int)=>y35==0) (List.reverseAux y7.1 []))) y7.1,y6.1,wrap .u64 (List.getD (List.take (List.length (List.dropWhile (fun(y36:Int)=>y36==0) (List.reverseAux y7.1 []))) y7.1) (0+(Int.toNat (wrap .i64 ((List.length (List.take (List.length (List.dropWhile (fun(y37:Int)=>y37==0) (List.reverseAux y7.1 []))) y7.1):Int) - 1)))) 0),wrap .u64 (List.getD (List.take (List.length (List.dropWhile (fun(y38:Int)=>y38==0) (List.reverseAux y7.1 []))) y7.1) (0+(Int.toNat (wrap .i64 ((List.length (List.take (List.length (List.dropWhile (fun(y39:Int)=>y39==0) (List.reverseAux y7.1 []))) y7.1):Int) - 2)))) 0),List.replicate (Int.toNat (wrap .i64 ((y6.1.length:Int) - (List.length (List.take (List.length (List.dropWhile (fun(y40:Int)=>y40==0) (List.reverseAux y7.1 []))) y7.1):Int)))) 0,y5.1,())else none else none else none else none else none else none else none else none else none else none
theorem id_tail (g:(Int×((List Int)×((List Int)×(Int×(Int×((List Int)×(Int×Unit)))))))->(Option (((List Int)×(List Int))×Unit))) (F:Option (((List Int)×(List Int))×Unit)) {u0 vs:List Int} {m j:Nat} {top next sh:Int}
  (h0:dig B32 u0=true) (hv:dig B32 vs=true) (hN:u0.length=m+vs.length) (hbig:u0.length<=1000000000) (hj:j<m) (hV:0<a0c B32 vs)
  (hg:g ((j:Int) - 1,(vs,(ldU B32 (a0c B32 vs) u0 j,(top,(next,(ldQ B32 (a0c B32 vs) u0 m j,(sh,())))))))=F)
  (q:Nat) (hq:q<4294967296) (h1:ldW B32 (a0c B32 vs) u0 j/a0c B32 vs<=q) (h2:q*a0c B32 vs<ldW B32 (a0c B32 vs) u0 j+a0c B32 vs) (q':Int) (hq':q'=(q:Int)):
  (if((decide ((0:Int)<=(IntKind.wrap .i64 (((j+vs.length:Nat):Int)+(1:Int)))))=true)then(if((decide (((IntKind.wrap .i64 (((j+vs.length:Nat):Int)+(1:Int)))+(0:Int))<=((List.length (ldU B32 (a0c B32 vs) u0 (j+1))):Int)))=true)then(if((decide ((0:Int)<=(j:Int)))=true)then(if((decide ((j:Int)<=(IntKind.wrap .i64 (((j+vs.length:Nat):Int)+(1:Int)))))=true)then(Option.bind (S.i_takeAway ((Go.Cm.seen (ldU B32 (a0c B32 vs) u0 (j+1)) ((0:Nat)+(Int.toNat (j:Int))) ((Int.toNat (IntKind.wrap .i64 (((j+vs.length:Nat):Int)+(1:Int)))) - (Int.toNat (j:Int)))),(vs,(q',())))) (fun(y26:(Bool×((List Int)×Unit)))=>(if(y26.1=true)then(if((decide ((0:Int)<=(j:Int)))=true)then(if((decide ((j:Int)<((List.length (ldQ B32 (a0c B32 vs) u0 m (j+1))):Int)))=true)then(g ((IntKind.wrap .i64 ((j:Int) - (1:Int))),(vs,((Go.Cm.splice (ldU B32 (a0c B32 vs) u0 (j+1)) y26.2.1 ((0:Nat)+(Int.toNat (j:Int)))),(top,(next,((List.set (ldQ B32 (a0c B32 vs) u0 m (j+1)) ((0:Nat)+(Int.toNat (j:Int))) (IntKind.wrap .u32 (IntKind.wrap .u64 (q' - (1:Int))))),(sh,()))))))))
 else none)
 else none)
 else(if((decide ((0:Int)<=(j:Int)))=true)then(if((decide ((j:Int)<((List.length (ldQ B32 (a0c B32 vs) u0 m (j+1))):Int)))=true)then(g ((IntKind.wrap .i64 ((j:Int) - (1:Int))),(vs,((Go.Cm.splice (ldU B32 (a0c B32 vs) u0 (j+1)) y26.2.1 ((0:Nat)+(Int.toNat (j:Int)))),(top,(next,((List.set (ldQ B32 (a0c B32 vs) u0 m (j+1)) ((0:Nat)+(Int.toNat (j:Int))) (IntKind.wrap .u32 q')),(sh,()))))))))
 else none)
 else none))))
 else none)
 else none)
 else none)
 else none)=F:=by
 subst hq';have hhi:=dval_lt hv;have hA:(u0.take j).length=j:=by simp;omega
 have hQ:=ld_Q a0e hV h0 (show j<u0.length by omega) hj;have hQl:(ldQ B32 (a0c B32 vs) u0 m (j+1)).length=m:=by unfold ldQ;rw[List.length_append,List.length_replicate,fd_len];omega
 have hUl:=ld_U_lt a0e hV h0 hN hj hhi;have hs:=ld_step a0e hV h0 (show j<u0.length by omega);have hs':=ld_U a0e hV h0 (show j<u0.length by omega);have hvl:vs.length<=vs.length+1:=by omega
 have hve:∀X,X<B32^(vs.length+1)->fd B32 (u0.length - j) X=fd B32 (vs.length+1) X++List.replicate (m - 1 - j) 0:=by
  intro X hX;rw[show u0.length - j=(vs.length+1)+(m - 1 - j) by omega,fd_pad hX]
 have hVl:a0c B32 vs<B32^(vs.length+1):=Nat.lt_of_lt_of_le hhi (Nat.pow_le_pow_right (by decide) hvl);generalize hn:vs.length=n at*;generalize hVV:a0c B32 vs=V at*;generalize hUU:ldW B32 V u0 j=U at*;have hdm:=Nat.mod_add_div U V;have hml:=Nat.mod_lt U hV;obtain⟨n1,n2⟩:=near hV h1 h2;generalize U/V=Q at*;generalize U%V=M at*;have hM:=hve M (by omega);have hU':=hve U hUl;rw[hM]at hs';rw[hU']at hs;generalize hR:List.replicate (m - 1 - j) (0:Int)=R at*;have hRl:R.length=m - 1 - j:=by rw[<-hR,List.length_replicate]
 have e1:(0:Int)<=(j:Int):=by omega
 have e2:(j:Int)<(m:Int):=by omega
 have e3:(0:Int)<=((j+n:Nat):Int)+1:=by omega
 have e4:(j:Int)<=((j+n:Nat):Int)+1:=by omega
 have hlen:(ldU B32 V u0 (j+1)).length=j+n+1+R.length:=by
  rw[hs,List.length_append,List.length_append,hA,fd_len];omega
 have e5:((j+n:Nat):Int)+1+0<=((j+n+1+R.length:Nat):Int):=by omega
 rw[wr (x:=((j+n:Nat):Int)+1) (by omega) (by omega),hlen,hQl];simp only[e1,e2,e3,e4,e5,decide_true,if_true,Nat.zero_add,Int.toNat_natCast];have hseen:seen (ldU B32 V u0 (j+1)) j ((((j+n:Nat):Int)+1).toNat - j)=fd B32 (n+1) U:=by
  unfold seen;rw[hs,List.drop_left' hA,show(((j+n:Nat):Int)+1).toNat - j=n+1 by omega];exact List.take_left' (fd_len _ _ _)
 have hspl:∀X,splice (ldU B32 V u0 (j+1)) (fd B32 (n+1) X) j=u0.take j++(fd B32 (n+1) X++R):=by
  intro X;unfold splice;rw[hs,List.take_left' hA,fd_len,<-List.drop_drop,List.drop_left' hA,List.drop_left' (fd_len _ _ _),List.append_assoc]
 rw[hseen];have hd:a0c B32 (fd B32 (n+1) U)=U:=by rw[dval_fd,Nat.mod_eq_of_lt hUl]
 unfold S.i_takeAway;dsimp only;rw[fd_len,hd,hVV,hn,Int.toNat_natCast,if_pos ⟨dig_fd (by decide) _ _,hv,by omega,by omega,by omega,by omega,by rw[Nat.mul_comm];omega⟩];rw[Nat.mul_comm q V]at n1 n2
 by_cases hle:V*q<=U
 ·have hqe:=n1 hle;have hsub:U - V*q=M:=by rw[hqe];omega
  rw[if_pos hle,Option.bind_some,hsub];dsimp only;rw[if_neg (by simp),hspl,<-hs',w32 (by omega) (by omega),hqe,hQ,wr (by omega) (by omega)];exact hg
 ·have hqe:=n2 (by omega);have hsub:U+V - V*q=M:=by rw[hqe,Nat.mul_add];omega
  rw[if_neg hle,Option.bind_some,hsub];dsimp only;rw[if_pos rfl,hspl,<-hs',wu (x:=(q:Int) - 1) (by omega) (by omega),w32 (by omega) (by omega),hqe,show((Q+1:Nat):Int) - 1=((Q:Nat):Int) by omega,hQ,wr (by omega) (by omega)];exact hg
theorem id_inner (g:(Int×((List Int)×((List Int)×(Int×(Int×((List Int)×(Int×Unit)))))))->(Option (((List Int)×(List Int))×Unit))) (F:Option (((List Int)×(List Int))×Unit)) {u0 vs:List Int} {m j:Nat} {sh:Int}
  (h0:dig B32 u0=true) (hv:dig B32 vs=true) (hN:u0.length=m+vs.length) (hbig:u0.length<=1000000000) (hj:j<m) (hn2:2<=vs.length) (hlo:B32^(vs.length - 1)<=a0c B32 vs)
  (hg:g ((j:Int) - 1,(vs,(ldU B32 (a0c B32 vs) u0 j,(((a0c B32 vs/B32^(vs.length - 1):Nat):Int),(((a0c B32 vs/B32^(vs.length - 2)%B32:Nat):Int),(ldQ B32 (a0c B32 vs) u0 m j,(sh,())))))))=F) (w:Nat):
  ∀q r k:Nat,q*(a0c B32 vs/B32^(vs.length - 1))+r=ldW B32 (a0c B32 vs) u0 j/B32^(vs.length - 1)->ldW B32 (a0c B32 vs) u0 j/a0c B32 vs<=q->r<4294967296->4294967296 - r<=w->w<k->q<=18446744073709551615->
  loopP (P.i_nat_div_b21 g) k ((q:Int),(((a0c B32 vs/B32^(vs.length - 2)%B32:Nat):Int),((r:Int),(ldU B32 (a0c B32 vs) u0 (j+1),(((j+vs.length:Nat):Int),(((a0c B32 vs/B32^(vs.length - 1):Nat):Int),((j:Int),(vs,(ldQ B32 (a0c B32 vs) u0 m (j+1),(sh,()))))))))))=F:=by
 have hV:0<a0c B32 vs:=Nat.lt_of_lt_of_le (Nat.pow_pos (by decide)) hlo;have hhi:=dval_lt hv;have hU:=ld_lt a0e hV h0 (show j<u0.length by omega);have win:=ld_win a0e hn2 hlo hhi hU;have htail:=fun q hq h1 h2 q' hq'=>id_tail g F h0 hv hN hbig hj hV hg q hq h1 h2 q' hq'
 have g3:=ld_get a0e hV h0 hN hj hhi (i:=vs.length - 2) (by omega);have hsl:(ldU B32 (a0c B32 vs) u0 (j+1)).length=m+vs.length:=by unfold ldU;rw[List.length_append,fd_len,List.length_take];omega
 have hv1B:a0c B32 vs/B32^(vs.length - 1)<4294967296:=by
  have:a0c B32 vs/B32^(vs.length - 1)<B32:=by
   rw[Nat.div_lt_iff_lt_mul (Nat.pow_pos (by decide)),Nat.mul_comm,<-Nat.pow_succ,show(vs.length - 1).succ=vs.length by omega];exact hhi
  exact this
 have hv1:=win.hv1;generalize hX:ldW B32 (a0c B32 vs) u0 j/B32^(vs.length - 1)=X at*;generalize hv1e:a0c B32 vs/B32^(vs.length - 1)=v1 at*;have hv2B:a0c B32 vs/B32^(vs.length - 2)%B32<4294967296:=win.hv2;have hu2B:ldW B32 (a0c B32 vs) u0 j/B32^(vs.length - 2)%B32<4294967296:=win.hu2;generalize hv2e:a0c B32 vs/B32^(vs.length - 2)%B32=v2 at*;generalize hu2e:ldW B32 (a0c B32 vs) u0 j/B32^(vs.length - 2)%B32=u2 at*
 induction w with
 |zero=>intro q r k _ _ hr hw;omega
 |succ w ih=>
  intro q r k e hq hr hw hk hqb;obtain⟨k,rfl⟩:∃k',k=k'+1:=⟨k - 1,by omega⟩
  rw[a0k];unfold P.i_nat_div_b21;dsimp only;have c5:(0:Int)<=((j+vs.length:Nat):Int) - 2:=by omega
  have c6:((j+vs.length:Nat):Int) - 2<((m+vs.length:Nat):Int):=by omega
  have hwl:((m+vs.length:Nat):Int)=((List.length (ldU B32 (a0c B32 vs) u0 (j+1)):Nat):Int):=by rw[hsl]
  rw[hwl]at c6;have hstep:ldW B32 (a0c B32 vs) u0 j/a0c B32 vs<q->((r:Int)+(v1:Int)>=4294967296->(q - 1)<4294967296/\ldW B32 (a0c B32 vs) u0 j/a0c B32 vs<=q - 1/\(q - 1)*a0c B32 vs<ldW B32 (a0c B32 vs) u0 j+a0c B32 vs/\IntKind.wrap .u64 ((q:Int) - 1)=((q - 1:Nat):Int))/\(¬((r:Int)+(v1:Int)>=4294967296)->loopP (P.i_nat_div_b21 g) k (IntKind.wrap .u64 ((q:Int) - 1),((v2:Int),((r:Int)+(v1:Int),(ldU B32 (a0c B32 vs) u0 (j+1),(((j+vs.length:Nat):Int),((v1:Int),((j:Int),(vs,(ldQ B32 (a0c B32 vs) u0 m (j+1),(sh,()))))))))))=F):=by
   intro hlt;have hq1:1<=q:=Nat.lt_of_le_of_lt (Nat.zero_le _) hlt;have eq1:IntKind.wrap .u64 ((q:Int) - 1)=((q - 1:Nat):Int):=by
    rw[wu (by omega) (by omega)];omega
   have e':(q - 1)*v1+(r+v1)=X:=by
    obtain⟨p,rfl⟩:∃p,q=p+1:=⟨q - 1,by omega⟩
    rw[Nat.add_mul,Nat.one_mul]at e;rw[Nat.add_sub_cancel];omega
   constructor
   ·intro hge;have hd:=win.done e' (.inr (show(4294967296:Nat)<=r+v1 by omega));exact⟨hd.1,by omega,hd.2,eq1⟩
   ·intro hge;rw[eq1,<-Int.natCast_add];exact ih (q - 1) (r+v1) k e' (by omega) (by omega) (by omega) (by omega) (by omega)
  rw[wu (x:=(r:Int)+(v1:Int)) (by omega) (by omega)]
  by_cases b1:q>=4294967296
  ·rw[if_pos (decide_eq_true (show(q:Int)>=4294967296 by omega))];obtain⟨s1,s2⟩:=hstep (win.down e hq (.inl b1))
   by_cases b2:(r:Int)+(v1:Int)>=4294967296
   ·rw[if_pos (decide_eq_true b2)];obtain⟨t1,t2,t3,t4⟩:=s1 b2;exact htail (q - 1) t1 t2 t3 _ t4
   ·rw[if_neg (by simpa using b2)];exact s2 b2
  ·rw[if_neg (by simp;omega)];rw[wr (x:=((j+vs.length:Nat):Int) - 2) (by omega) (by omega),if_pos (decide_eq_true c5),if_pos (decide_eq_true c6),show 0+(((j+vs.length:Nat):Int) - 2).toNat=j+(vs.length - 2) by omega,g3];have hqv:q*v2<=4294967295*4294967295:=Nat.mul_le_mul (by omega) (by omega);rw[<-Int.natCast_mul,wu (x:=((q*v2:Nat):Int)) (by omega) (by omega),wu (x:=(r:Int)*4294967296) (by omega) (by omega),wu (x:=(u2:Int)) (by omega) (by omega),wu (x:=(r:Int)*4294967296+(u2:Int)) (by omega) (by omega)]
   by_cases b3:q*v2>r*4294967296+u2
   ·rw[if_pos (decide_eq_true (show((q*v2:Nat):Int)>(r:Int)*4294967296+(u2:Int) by omega))];obtain⟨s1,s2⟩:=hstep (win.down e hq (.inr b3))
    by_cases b2:(r:Int)+(v1:Int)>=4294967296
    ·rw[if_pos (decide_eq_true b2)];obtain⟨t1,t2,t3,t4⟩:=s1 b2;exact htail (q - 1) t1 t2 t3 _ t4
    ·rw[if_neg (by simpa using b2)];exact s2 b2
   ·rw[if_neg (by simp;omega)];have hd:=win.done e (.inl ⟨show q<B32 by show q<4294967296;omega,show q*v2<=r*B32+u2 by show q*v2<=r*4294967296+u2;omega⟩);exact htail q hd.1 hq hd.2 _ rfl
theorem id_down {R sh:Nat} {qs:List Int} {n:Nat} (hn:(nd B32 R).length=n) (hsh:sh<=31) (hb:n<=1000000000) (hq:dig B32 qs=true) (hql:qs.length<=1000000000) (k:Nat) (hk:n<k):
  loopP P.i_nat_div_b27 k ((0:Int),((n:Int),(nd B32 R,((sh:Int),(qs,())))))=some ((nd B32 (a0c B32 qs),nd B32 (R/2^sh)),()):=by
 have hRn:R<B32^n:=(nd_len a0e R n).1 (by omega);have hpow:0<2^sh:=Nat.pow_pos (by decide);have hndfd:nd B32 R=fd B32 n R:=by
  have:=fd_dval (B:=B32) (by decide) (dig_nd a0e R);rw[hn,a0i a0e]at this;exact this.symm
 have key:=a0g (k:=k) (b:=P.i_nat_div_b27) (n:=n) (st:=fun i=>((i:Int),(n:Int),fd B32 i (R/2^sh)++fd B32 (n - i) (R/B32^i),(sh:Int),qs,())) (F:=fun i=>some ((nd B32 (a0c B32 qs),nd B32 (R/2^sh)),())) (fun i g hi hg=>by
  unfold P.i_nat_div_b27;dsimp only at hg ⊢;refine Eq.trans ?_ hg;clear hg;have hlen:(fd B32 i (R/2^sh)++fd B32 (n - i) (R/B32^i)).length=n:=by rw[List.length_append,fd_len,fd_len];omega
  have hfl:(fd B32 i (R/2^sh)).length=i:=fd_len _ _ _;have e1:(i:Int)<(n:Int):=by omega
  have e2:(0:Int)<=(i:Int):=by omega
  have e3:¬((sh:Int)<0):=by omega
  have e4:(0:Int)<=(i:Int)+1:=by omega
  have emin:Min.min sh 64=sh:=by omega
  have ep:((2:Int)^sh)=((2^sh:Nat):Int):=by rw[Int.natCast_pow];rfl
  rw[hlen,wr (x:=(i:Int)+1) (by omega) (by omega)];simp only[e1,e2,e3,e4,decide_true,decide_false,if_true,if_false,Bool.false_eq_true,Nat.zero_add,Int.toNat_natCast];rw[emin,ep];have hsplit:fd B32 (n - i) (R/B32^i)=((R/B32^i%B32:Nat):Int)::fd B32 (n - (i+1)) (R/B32^(i+1)):=by
   rw[show n - i=(n - (i+1))+1 by omega,fd,Nat.div_div_eq_div_mul,Nat.pow_succ]
  rw[hsplit];simp only[mid_set hfl,mid_get hfl];have hx:R/B32^i%B32<4294967296:=Nat.mod_lt _ (by decide);have hy:R/B32^(i+1)%B32<4294967296:=Nat.mod_lt _ (by decide);have hval:∀Y:Nat,Y=R/B32^(i+1)%B32->IntKind.wrap .u32 (Int.fdiv (((Y*4294967296+R/B32^i%B32:Nat):Int)) ((2^sh:Nat):Int))=((R/2^sh/B32^i%B32:Nat):Int):=by
   intro Y hY;rw[Int.fdiv_eq_ediv_of_nonneg _ (by omega),<-Int.natCast_ediv,u32_emod];have e5:∀z:Nat,((z:Nat):Int)%4294967296=((z%B32:Nat):Int):=by
    intro z;show _=((z%4294967296:Nat):Int)
    omega
   rw[e5];congr 1;have e6:Y*4294967296+R/B32^i%B32=R/B32^i%(B32*B32):=by
    rw[hY,Nat.mod_mul,Nat.div_div_eq_div_mul,<-Nat.pow_succ,Nat.add_comm,Nat.mul_comm]
   have e7:R/2^sh/B32^i=R/B32^i/2^sh:=by rw[Nat.div_div_eq_div_mul,Nat.div_div_eq_div_mul,Nat.mul_comm]
   have e8:B32*B32=2^sh*(B32*2^(32 - sh)):=by
    have:B32=2^sh*2^(32 - sh):=by rw[<-Nat.pow_add,show sh+(32 - sh)=32 by omega]
    calc B32*B32=2^sh*2^(32 - sh)*B32:=by rw[<-this]
     _=2^sh*(B32*2^(32 - sh)):=by ac_rfl
   rw[e6,e7,e8,Nat.mod_mul_right_div_self,Nat.mod_mul_right_mod]
  by_cases hj:(i:Int)+1<(n:Int)
  ·have hj':fd B32 (n - (i+1)) (R/B32^(i+1))=((R/B32^(i+1)%B32:Nat):Int)::fd B32 (n - (i+1) - 1) (R/B32^(i+1)/B32):=by
    conv=>lhs;rw[show n - (i+1)=(n - (i+1) - 1)+1 by omega,fd]
   have hg2:(fd B32 i (R/2^sh)++((R/B32^i%B32:Nat):Int)::fd B32 (n - (i+1)) (R/B32^(i+1))).getD ((i:Int)+1).toNat 0=((R/B32^(i+1)%B32:Nat):Int):=by
    rw[hj',show((i:Int)+1).toNat=i+1 by omega,List.append_cons];exact mid_get (by rw[List.length_append,hfl];rfl)
   rw[if_pos (decide_eq_true hj),if_pos (decide_eq_true hj),hg2];rw[wu (x:=((R/B32^(i+1)%B32:Nat):Int)) (by omega) (by omega),wu (x:=((R/B32^(i+1)%B32:Nat):Int)*4294967296) (by omega) (by omega),wu (x:=((R/B32^i%B32:Nat):Int)) (by omega) (by omega),wu (x:=((R/B32^(i+1)%B32:Nat):Int)*4294967296+((R/B32^i%B32:Nat):Int)) (by omega) (by omega),show((R/B32^(i+1)%B32:Nat):Int)*4294967296+((R/B32^i%B32:Nat):Int)=((R/B32^(i+1)%B32*4294967296+R/B32^i%B32:Nat):Int) by omega,hval _ rfl,<-fd_snoc];rfl
  ·rw[if_neg (by simpa using hj)];have hn1:n=i+1:=by omega
   have h0:0=R/B32^(i+1)%B32:=by rw[<-hn1,Nat.div_eq_of_lt hRn,Nat.zero_mod]
   rw[wu (x:=((R/B32^i%B32:Nat):Int)) (by omega) (by omega),wu (x:=0+((R/B32^i%B32:Nat):Int)) (by omega) (by omega),show 0+((R/B32^i%B32:Nat):Int)=((0*4294967296+R/B32^i%B32:Nat):Int) by omega,hval 0 h0,<-fd_snoc];rfl) (fun g=>by
  unfold P.i_nat_div_b27;dsimp only;have hRs:R/2^sh<B32^n:=Nat.lt_of_le_of_lt (Nat.div_le_self _ _) hRn;have hl1:qs.length<=1000000000000:=by omega
  have hfl:(fd B32 n (R/2^sh)).length=n:=fd_len _ _ _;have hl2:(fd B32 n (R/2^sh)).length<=1000000000000:=by omega
  rw[if_neg (by simp),Nat.sub_self,show fd B32 0 (R/B32^n)=[]from rfl,List.append_nil,if_pos (decide_eq_true hl1),if_pos (decide_eq_true hl2),trim_nd a0e _ _ rfl hq,trim_nd a0e _ _ rfl (dig_fd (by decide) _ _),nd_fd a0e hRs]) hk
 rw[show fd B32 0 (R/2^sh)++fd B32 (n - 0) (R/B32^0)=nd B32 R by rw[hndfd,Nat.pow_zero,Nat.div_one];rfl]at key;exact key
theorem id_outer {u0 vs:List Int} {m sh:Nat}
  (h0:dig B32 u0=true) (hv:dig B32 vs=true) (hN:u0.length=m+vs.length) (hbig:u0.length<=1000000000) (hn2:2<=vs.length) (hlo:B32^(vs.length - 1)<=a0c B32 vs) (hsh:sh<=31) (ht:a0c B32 (u0.drop m)<a0c B32 vs) (k:Nat) (hk:k=u0.length+4294967310):
  loopP (P.i_nat_div_b18 k) k ((m:Int) - 1,(vs,(u0,(((a0c B32 vs/B32^(vs.length - 1):Nat):Int),(((a0c B32 vs/B32^(vs.length - 2)%B32:Nat):Int),(List.replicate m 0,((sh:Int),())))))))=some ((nd B32 (a0c B32 u0/a0c B32 vs),nd B32 (a0c B32 u0%a0c B32 vs/2^sh)),()):=by
 have hV:0<a0c B32 vs:=Nat.lt_of_lt_of_le (Nat.pow_pos (by decide)) hlo;have hhi:=dval_lt hv;obtain⟨f1,f2⟩:=ld_first a0e hV h0 (show m<=u0.length by omega) ht;have key:=a0g (k:=k) (b:=P.i_nat_div_b18 k) (n:=m) (st:=fun i=>((m:Int) - 1 - (i:Int),vs,ldU B32 (a0c B32 vs) u0 (m - i),((a0c B32 vs/B32^(vs.length - 1):Nat):Int),((a0c B32 vs/B32^(vs.length - 2)%B32:Nat):Int),ldQ B32 (a0c B32 vs) u0 m (m - i),(sh:Int),())) (F:=fun i=>some ((nd B32 (a0c B32 u0/a0c B32 vs),nd B32 (a0c B32 u0%a0c B32 vs/2^sh)),())) (fun i g hi hg=>by
  unfold P.i_nat_div_b18;dsimp only at hg ⊢;obtain⟨j,hj⟩:∃j,m - i=j+1:=⟨m - i - 1,by omega⟩
  have hjm:j<m:=by omega
  rw[show m - (i+1)=j by omega,show(m:Int) - 1 - ((i+1:Nat):Int)=(j:Int) - 1 by omega]at hg;rw[hj,show(m:Int) - 1 - (i:Int)=(j:Int) by omega];have hU:=ld_lt a0e hV h0 (show j<u0.length by omega);have win:=ld_win a0e hn2 hlo hhi hU;have g3:=ld_get a0e hV h0 hN hjm hhi (i:=vs.length) (by omega);have g4:=ld_get a0e hV h0 hN hjm hhi (i:=vs.length - 1) (by omega);have hsl:(ldU B32 (a0c B32 vs) u0 (j+1)).length=m+vs.length:=by unfold ldU;rw[List.length_append,fd_len,List.length_take];omega
  have hv1B:a0c B32 vs/B32^(vs.length - 1)<4294967296:=by
   have:a0c B32 vs/B32^(vs.length - 1)<B32:=by
    rw[Nat.div_lt_iff_lt_mul (Nat.pow_pos (by decide)),Nat.mul_comm,<-Nat.pow_succ,show(vs.length - 1).succ=vs.length by omega];exact hhi
   exact this
  have hv1:=win.hv1;have hxlt:=win.xlt;have hstart:=win.start;have hUl:=ld_U_lt a0e hV h0 hN hjm hhi;have hinner:=id_inner g _ h0 hv hN hbig hjm hn2 hlo hg 4294967296;have hXe:ldW B32 (a0c B32 vs) u0 j/B32^vs.length%B32*4294967296+ldW B32 (a0c B32 vs) u0 j/B32^(vs.length - 1)%B32=ldW B32 (a0c B32 vs) u0 j/B32^(vs.length - 1):=by
   have hq:ldW B32 (a0c B32 vs) u0 j/B32^vs.length<B32:=by
    rw[Nat.div_lt_iff_lt_mul (Nat.pow_pos (by decide)),Nat.mul_comm,<-Nat.pow_succ];exact hUl
   rw[Nat.mod_eq_of_lt hq];have e:B32^vs.length=B32^(vs.length - 1)*B32:=by rw[<-Nat.pow_succ];congr 1;omega
   rw[e,<-Nat.div_div_eq_div_mul,Nat.mul_comm];exact Nat.div_add_mod _ _
  have hu1:ldW B32 (a0c B32 vs) u0 j/B32^vs.length%B32<4294967296:=Nat.mod_lt _ (by decide);have hu0:ldW B32 (a0c B32 vs) u0 j/B32^(vs.length - 1)%B32<4294967296:=Nat.mod_lt _ (by decide);generalize hX:ldW B32 (a0c B32 vs) u0 j/B32^(vs.length - 1)=X at*;generalize hv1e:a0c B32 vs/B32^(vs.length - 1)=v1 at*;generalize ldW B32 (a0c B32 vs) u0 j/B32^vs.length%B32=ua at*;generalize X%B32=ub at*;have c0:(j:Int)>=0:=by omega
  have c1:(0:Int)<=((j+vs.length:Nat):Int):=by omega
  have c2:((j+vs.length:Nat):Int)<((m+vs.length:Nat):Int):=by omega
  have c3:(0:Int)<=((j+vs.length:Nat):Int) - 1:=by omega
  have c4:((j+vs.length:Nat):Int) - 1<((m+vs.length:Nat):Int):=by omega
  have c7:¬((v1:Int)=0):=by omega
  rw[hsl,<-Int.natCast_add j,wr (x:=((j+vs.length:Nat):Int)) (by omega) (by omega),wr (x:=((j+vs.length:Nat):Int) - 1) (by omega) (by omega)];simp only[c0,c1,c2,c3,c4,c7,decide_true,decide_false,if_true,if_false,Bool.false_eq_true];rw[show 0+(((j+vs.length:Nat):Int)).toNat=j+vs.length by omega,show 0+(((j+vs.length:Nat):Int) - 1).toNat=j+(vs.length - 1) by omega,g3,g4];rw[wu (x:=(ua:Int)) (by omega) (by omega),wu (x:=(ub:Int)) (by omega) (by omega),wu (x:=(ua:Int)*4294967296) (by omega) (by omega),wu (x:=(ua:Int)*4294967296+(ub:Int)) (by omega) (by omega),show(ua:Int)*4294967296+(ub:Int)=(X:Int) by omega,Int.tdiv_eq_ediv_of_nonneg (by omega),Int.tmod_eq_emod_of_nonneg (by omega),<-Int.natCast_ediv,<-Int.natCast_emod];have hX18:X<=18446744073709551615:=by omega
  have hXd:X/v1<=X:=Nat.div_le_self _ _;have hml:=Nat.mod_lt X hv1;have hdm:X/v1*v1+X%v1=X:=by rw[Nat.mul_comm];exact Nat.div_add_mod _ _
  generalize X/v1=qq at*;generalize X%v1=rr at*;rw[wu (x:=(qq:Int)) (by omega) (by omega)];exact hinner qq rr k hdm hstart (by omega) (by omega) (by omega) (by omega)) (fun g=>by
  unfold P.i_nat_div_b18;dsimp only;rw[if_neg (by simp;omega),Nat.sub_self];have hVN:a0c B32 vs<=B32^u0.length:=Nat.le_trans (Nat.le_of_lt hhi) (Nat.pow_le_pow_right (by decide) (by omega));obtain⟨l1,l2,l3,l4,l5,l6⟩:=ld_last a0e hV h0 (show m<=u0.length by omega) ht hVN;have hul:(nd B32 (a0c B32 u0%a0c B32 vs)).length<=u0.length:=by
   rw[nd_len a0e,<-l1,<-l5];exact dval_lt l3
  have hl1:(ldU B32 (a0c B32 vs) u0 0).length<=1000000000000:=by omega
  rw[if_pos (decide_eq_true hl1),trim_nd a0e _ _ rfl l3,l1,id_down rfl hsh (by omega) l4 (by omega) k (by omega),l2]) (by omega)
 rw[Nat.sub_zero,f1,f2]at key;rw[<-key,show(m:Int) - 1 - ((0:Nat):Int)=(m:Int) - 1 by omega]
def S.i_nat_div (x:((List Int)×((List Int)×Unit))):(Option (((List Int)×(List Int))×Unit)):=if canon B32 x.1=true/\canon B32 x.2.1=true/\x.2.1≠ []/\x.1.length<=100000000/\x.2.1.length<=100000000 then some ((nd B32 (a0c B32 x.1/a0c B32 x.2.1),nd B32 (a0c B32 x.1%a0c B32 x.2.1)),())else none
theorem S.i_nat_div_ok (x r) (h:S.i_nat_div x=some r):∃k,P.i_nat_div k x=some r:=by
 obtain⟨as,bs,u⟩:=x;unfold S.i_nat_div at h;dsimp only at h;split at h
 case isFalse=>cases h
 rename_i hc;obtain⟨ca,cb,hne,la,lb⟩:=hc;cases h;have da:=canon_dig ca;have db:=canon_dig cb;have hbpos:0<bs.length:=List.length_pos_iff.2 hne;have hb0:a0c B32 bs≠0:=by
  intro q;have:=canon_eq cb;rw[q,nd_zero a0e]at this;exact hne this.symm
 have hlow:=nd_low a0e hb0;rw[canon_eq cb]at hlow;have hhib:=dval_lt db;have hhia:=dval_lt da;have sc:S.i_nat_cmp (as,(bs,()))=some (cmpN (a0c B32 as) (a0c B32 bs),()):=by
  unfold S.i_nat_cmp;exact if_pos ⟨ca,cb,by dsimp only;omega⟩
 refine⟨(as.length+1)+4294967310,?_⟩;unfold P.i_nat_div;dsimp only;rw[sc,Option.bind_some];dsimp only
 by_cases hlt:a0c B32 as<a0c B32 bs
 ·rw[if_pos (decide_eq_true (cmpN_lt.2 hlt)),Nat.div_eq_of_lt hlt,Nat.mod_eq_of_lt hlt,nd_zero a0e,canon_eq ca]
 ·rw[if_neg (by simpa [cmpN_lt]using hlt)]
  by_cases h1:bs.length=1
  ·obtain⟨b0,rfl⟩:∃b0,bs=[b0]:=by
    match bs,h1 with
    | [b0],_=>exact⟨b0,rfl⟩
   rw[if_pos (by rfl),if_pos (by rfl)];have hb:a0c B32 [b0]=b0.toNat:=by simp [a0c]
   have hbd:=(dig_cons _ _).1 db;have hbd1:b0<4294967296:=hbd.1.2;rw[hb]at hb0 ⊢;show Option.bind (S.i_nat_divSmall (as,(b0,()))) _=_;unfold S.i_nat_divSmall;dsimp only;have hm:=Nat.mod_lt (a0c B32 as) (show 0<b0.toNat by omega);rw[if_pos ⟨da,by omega,by omega,by omega⟩,Option.bind_some];dsimp only;generalize a0c B32 as%b0.toNat=M at*;have hone:dig B32 [(M:Int)]=true:=by
    rw[dig_cons];refine⟨⟨by omega,?_⟩,rfl⟩;show(M:Int)<4294967296;omega
   have ht:=trim_nd a0e 1 [(M:Int)] rfl hone;rw[show a0c B32 [(M:Int)]=M by simp [a0c]]at ht;rw[if_pos (by rfl),<-ht];rfl
  ·rw[if_neg (by simp;omega)];have hn2:2<=bs.length:=by omega
   have c1:(0:Int)<=(bs.length:Int) - 1:=by omega
   have c2:(bs.length:Int) - 1<(bs.length:Int):=by omega
   have hbtB:a0c B32 bs/B32^(bs.length - 1)<4294967296:=by
    have:a0c B32 bs/B32^(bs.length - 1)<B32:=by
     rw[Nat.div_lt_iff_lt_mul (Nat.pow_pos (by decide)),Nat.mul_comm,<-Nat.pow_succ,show(bs.length - 1).succ=bs.length by omega];exact hhib
    exact this
   have hbt0:0<a0c B32 bs/B32^(bs.length - 1):=Nat.div_pos hlow (Nat.pow_pos (by decide));have g1:=dig_low a0e db (i:=bs.length - 1) (by omega);rw[show a0c B32 bs/B32^(bs.length - 1)%B32=a0c B32 bs/B32^(bs.length - 1)from Nat.mod_eq_of_lt hbtB]at g1;have hbt1:a0c B32 bs<(a0c B32 bs/B32^(bs.length - 1)+1)*B32^(bs.length - 1):=by
    have:=Nat.lt_div_mul_add (show 0<B32^(bs.length - 1)from Nat.pow_pos (by decide)) (a:=a0c B32 bs);rw[Nat.add_mul,Nat.one_mul];exact this
   generalize hbt:a0c B32 bs/B32^(bs.length - 1)=bt at*;rw[wr (x:=(bs.length:Int) - 1) (by omega) (by omega),if_pos (decide_eq_true c1),if_pos (decide_eq_true c2),show((bs.length:Int) - 1).toNat=bs.length - 1 by omega,g1];unfold S.math_bits_LeadingZeros32;dsimp only;rw[if_pos ⟨by omega,by omega⟩,Option.bind_some,Int.toNat_natCast];dsimp only;obtain⟨b1,b2,b3⟩:=Go.Lib.bitLenAux_bounds 64 bt (by omega) (by omega);have hL32:Go.Lib.bitLen bt<=32:=Go.Lib.bitLen_le bt 32 (by decide) (by omega);have hL:Go.Lib.bitLen bt=Go.Lib.bitLenAux 64 bt:=rfl;rw[<-hL]at b1 b2 b3;generalize Go.Lib.bitLen bt=L at*;obtain⟨sh,hsh⟩:∃sh:Nat,sh=32 - L:=⟨_,rfl⟩
   have hsh1:sh<=31:=by omega
   have hsI:(32:Int) - (L:Int)=(sh:Int):=by omega
   rw[hsI];have hpow:0<2^sh:=Nat.pow_pos (by decide);have hd2:(bt+1)*2^sh<=B32:=by
    have h3:(bt+1)*2^sh<=2^L*2^sh:=Nat.mul_le_mul_right _ b3;rw[<-Nat.pow_add,show L+sh=32 by omega]at h3;exact h3
   have m1:S.i_nat_shifted (as,((sh:Int),()))=some (fd B32 (as.length+1) (a0c B32 as*2^sh),()):=by
    unfold S.i_nat_shifted;exact if_pos ⟨da,by dsimp only;omega,by dsimp only;omega,by dsimp only;omega⟩
   have m2:S.i_nat_shifted (bs,((sh:Int),()))=some (fd B32 (bs.length+1) (a0c B32 bs*2^sh),()):=by
    unfold S.i_nat_shifted;exact if_pos ⟨db,by dsimp only;omega,by dsimp only;omega,by dsimp only;omega⟩
   rw[m1,Option.bind_some,m2,Option.bind_some];dsimp only;have hvhi:a0c B32 bs*2^sh<B32^bs.length:=by
    have h3:a0c B32 bs*2^sh<(bt+1)*B32^(bs.length - 1)*2^sh:=Nat.mul_lt_mul_of_pos_right hbt1 hpow;have h4:(bt+1)*B32^(bs.length - 1)*2^sh=(bt+1)*2^sh*B32^(bs.length - 1):=by ac_rfl
    have h5:(bt+1)*2^sh*B32^(bs.length - 1)<=B32*B32^(bs.length - 1):=Nat.mul_le_mul_right _ hd2;have h6:B32*B32^(bs.length - 1)=B32^bs.length:=by rw[Nat.mul_comm,<-Nat.pow_succ];congr 1;omega
    omega
   have hvlo:B32^(bs.length - 1)<=a0c B32 bs*2^sh:=Nat.le_trans hlow (Nat.le_mul_of_pos_right _ hpow);have hvl:(nd B32 (a0c B32 bs*2^sh)).length=bs.length:=by
    have h3:=(nd_len a0e (a0c B32 bs*2^sh) bs.length).2 hvhi;have h4:=nd_len a0e (a0c B32 bs*2^sh) (bs.length - 1);have h5:¬(nd B32 (a0c B32 bs*2^sh)).length<=bs.length - 1:=by
     rw[h4];omega
    omega
   have hahi:a0c B32 as*2^sh<B32^(as.length+1):=by
    have h3:2^sh<=B32:=Nat.le_trans (Nat.pow_le_pow_right (by decide) hsh1) (by decide);rw[Nat.pow_succ];exact Nat.lt_of_lt_of_le (Nat.mul_lt_mul_of_pos_right hhia hpow) (Nat.mul_le_mul_left _ h3)
   have hab:bs.length<=as.length:=by
    rcases Nat.lt_or_ge as.length bs.length with g|g
    ·have:=canon_small a0e ca cb g;omega
    ·exact g
   have htr:List.take (List.length (List.dropWhile (fun y:Int=>(y==(0:Int))) (List.reverseAux (fd B32 (bs.length+1) (a0c B32 bs*2^sh)) ([]:List Int)))) (fd B32 (bs.length+1) (a0c B32 bs*2^sh))=nd B32 (a0c B32 bs*2^sh):=by
    rw[trim_nd a0e _ _ rfl (dig_fd (by decide) _ _),nd_fd a0e (Nat.lt_of_lt_of_le hvhi (Nat.pow_le_pow_right (by decide) (by omega)))]
   rw[htr,fd_len,fd_len];have hdw:a0c B32 (nd B32 (a0c B32 bs*2^sh))=a0c B32 bs*2^sh:=a0i a0e _;have hdv':=dig_nd a0e (a0c B32 bs*2^sh);have hu0:a0c B32 (fd B32 (as.length+1) (a0c B32 as*2^sh))=a0c B32 as*2^sh:=by rw[dval_fd,Nat.mod_eq_of_lt hahi]
   have hul:(fd B32 (as.length+1) (a0c B32 as*2^sh)).length=as.length+1:=fd_len _ _ _;have hud:dig B32 (fd B32 (as.length+1) (a0c B32 as*2^sh))=true:=dig_fd (by decide) _ _;generalize nd B32 (a0c B32 bs*2^sh)=vs at*;generalize fd B32 (as.length+1) (a0c B32 as*2^sh)=u0 at*;have ht:a0c B32 (u0.drop (as.length+1 - bs.length))<a0c B32 bs*2^sh:=ld_top (n:=vs.length) a0e hud hu0 hpow (by omega) (by rw[show as.length+1 - bs.length+vs.length - 1=as.length by omega];exact hhia) (by omega) (by rw[hvl];exact hlow);have hmain:=id_outer (m:=as.length+1 - bs.length) (sh:=sh) hud hdv' (by omega) (by omega) (by omega) (by rw[hvl,hdw];exact hvlo) hsh1 (by rw[hdw];exact ht) ((as.length+1)+4294967310) (by omega);have g2:=dig_low a0e hdv' (i:=vs.length - 1) (by omega);have g3:=dig_low a0e hdv' (i:=vs.length - 2) (by omega);have hv1B:a0c B32 vs/B32^(vs.length - 1)<4294967296:=by
    have:a0c B32 vs/B32^(vs.length - 1)<B32:=by
     rw[Nat.div_lt_iff_lt_mul (Nat.pow_pos (by decide)),Nat.mul_comm,<-Nat.pow_succ,show(vs.length - 1).succ=vs.length by omega];exact dval_lt hdv'
    exact this
   rw[show a0c B32 vs/B32^(vs.length - 1)%B32=a0c B32 vs/B32^(vs.length - 1)from Nat.mod_eq_of_lt hv1B]at g2;have hv2B:a0c B32 vs/B32^(vs.length - 2)%B32<4294967296:=Nat.mod_lt _ (by decide);generalize a0c B32 vs/B32^(vs.length - 1)=v1 at*;generalize a0c B32 vs/B32^(vs.length - 2)%B32=v2 at*;have e9:(((as.length+1:Nat):Int) - (vs.length:Int))=((as.length+1 - bs.length:Nat):Int):=by omega
   have c3:(bs.length+1)<=1000000000000:=by omega
   have c4:(0:Int)<=(vs.length:Int) - 1:=by omega
   have c5:(vs.length:Int) - 1<(vs.length:Int):=by omega
   have c6:(0:Int)<=(vs.length:Int) - 2:=by omega
   have c7:(vs.length:Int) - 2<(vs.length:Int):=by omega
   have c8:(0:Int)<=((as.length+1 - bs.length:Nat):Int):=by omega
   have c9:((as.length+1 - bs.length:Nat):Int)*4<=281474976710656:=by omega
   rw[e9,wr (x:=((as.length+1 - bs.length:Nat):Int)) (by omega) (by omega),wr (x:=(vs.length:Int) - 1) (by omega) (by omega),wr (x:=(vs.length:Int) - 2) (by omega) (by omega)];simp only[c3,c4,c5,c6,c7,c8,c9,decide_true,if_true,Int.le_refl,Int.toNat_natCast,List.length_replicate,Nat.zero_add];rw[show((vs.length:Int) - 1).toNat=vs.length - 1 by omega,show((vs.length:Int) - 2).toNat=vs.length - 2 by omega,g2,g3,wu (x:=(v1:Int)) (by omega) (by omega),wu (x:=(v2:Int)) (by omega) (by omega),wr (x:=((as.length+1 - bs.length:Nat):Int) - 1) (by omega) (by omega),hmain,hu0,hdw,Nat.mul_div_mul_right _ _ hpow,Nat.mul_mod_mul_right,Nat.mul_div_cancel _ hpow]
abbrev P.i_nat_small_b0 (x1:Int×List Int×Int×Unit) (g2:Int×List Int×Int×Unit->Option ((Int×Bool)×Unit)):Option ((Int×Bool)×Unit):=
 if decide (x1.1>=0)then if decide ((x1.2.1.length:Int)<=2)then if decide (0<=x1.1)then if decide (x1.1<(x1.2.1.length:Int))then g2 (wrap .i64 (x1.1 - 1),x1.2.1,wrap .u64 ((wrap .u64 (x1.2.2.1*4294967296))+(wrap .u64 (x1.2.1.getD x1.1.toNat 0))),())else none else none else some ((x1.2.2.1,decide ((x1.2.1.length:Int)<=2)),())else some ((x1.2.2.1,decide ((x1.2.1.length:Int)<=2)),())
def P.i_nat_small (k:Nat) (x:List Int×Unit):Option ((Int×Bool)×Unit):=
 loopP P.i_nat_small_b0 k (wrap .i64 ((x.1.length:Int) - 1),x.1,0,())
def S.i_nat_small (x:((List Int)×Unit)):(Option ((Int×Bool)×Unit)):=if dig B32 x.1=true/\x.1.length<=1000000000000 then some ((if x.1.length<=2 then((a0c B32 x.1:Nat):Int)else 0,decide (x.1.length<=2)),())else none
theorem S.i_nat_small_ok (x r) (h:S.i_nat_small x=some r):∃k,P.i_nat_small k x=some r:=by
 obtain⟨xs,u⟩:=x;unfold S.i_nat_small at h;dsimp only at h;split at h
 case isFalse=>cases h
 rename_i hc;obtain⟨hd,hl⟩:=hc;cases h
 by_cases h2:xs.length<=2
 ·refine⟨xs.length+1,?_⟩;unfold P.i_nat_small;dsimp only;rw[if_pos h2,decide_eq_true h2,wr (by omega) (by omega)];have key:=a0g (k:=xs.length+1) (b:=P.i_nat_small_b0) (n:=xs.length) (st:=fun j=>((xs.length:Int) - 1 - (j:Int),xs,((a0c B32 (xs.drop (xs.length - j)):Nat):Int),())) (F:=fun j=>some ((((a0c B32 xs:Nat):Int),true),())) (fun j g hj hg=>by
   unfold P.i_nat_small_b0;dsimp only at hg ⊢;have e1:(xs.length:Int) - 1 - (j:Int)>=0:=by omega
   have e2:(xs.length:Int)<=2:=by omega
   have e3:(0:Int)<=(xs.length:Int) - 1 - (j:Int):=by omega
   have e4:(xs.length:Int) - 1 - (j:Int)<(xs.length:Int):=by omega
   simp only[e1,e2,e4,decide_true,if_true];have hi:xs.length - (j+1)<xs.length:=by omega
   have e5:(xs.length:Int) - 1 - (j:Int)=((xs.length - (j+1):Nat):Int):=by omega
   rw[e5,a0o xs _ _ hi];have e6:xs.drop (xs.length - (j+1))=xs[xs.length - (j+1)]::xs.drop (xs.length - j):=by
    rw[List.drop_eq_getElem_cons hi];congr 2;omega
   have hx:=dig_get hd hi;have hv:a0c B32 (xs.drop (xs.length - j))<B32^1:=by
    have hdd:dig B32 (xs.drop (xs.length - j))=true:=by
     have:=List.take_append_drop (xs.length - j) xs;rw[<-this,dig_append,Bool.and_eq_true]at hd;exact hd.2
    have:=dval_lt hdd;have hp:B32^(xs.drop (xs.length - j)).length<=B32^1:=Nat.pow_le_pow_right (by decide) (by simp;omega);omega
   have hv':a0c B32 (xs.drop (xs.length - j))<4294967296:=hv;have hx':xs[xs.length - (j+1)]<4294967296:=hx.2;rw[e6]at hg;rw[<-hg,wr (by omega) (by omega),wu (x:=(a0c B32 (xs.drop (xs.length - j)):Int)*4294967296) (by omega) (by omega),wu (x:=xs[xs.length - (j+1)]) (by omega) (by omega),wu (by omega) (by omega)];congr 1;simp only[Prod.mk.injEq,a0c];refine⟨by omega,trivial,?_,trivial⟩;show _=(((xs[xs.length - (j+1)]).toNat+4294967296*a0c B32 (xs.drop (xs.length - j)):Nat):Int)
   omega) (fun g=>by
   unfold P.i_nat_small_b0;dsimp only;rw[if_neg (by simp;omega),Nat.sub_self,List.drop_zero,decide_eq_true (by omega)]) (by omega)
  have e0:a0c B32 (xs.drop (xs.length - 0))=0:=by rw[Nat.sub_zero,List.drop_length];rfl
  rw[show(xs.length:Int) - 1 - ((0:Nat):Int)=(xs.length:Int) - 1 by omega,e0]at key;exact key
 ·refine⟨1,?_⟩;unfold P.i_nat_small;rw[a0k];unfold P.i_nat_small_b0;dsimp only;rw[wr (by omega) (by omega),if_pos (decide_eq_true (by omega)),if_neg (by simp;omega),if_neg h2,decide_eq_false h2,decide_eq_false (by omega)]
abbrev i_nat_gcd.A:=Option (List Int×Unit)
abbrev P.i_nat_gcd_b5 (x6:Int×Int×Unit) (g7:Int×Int×Unit->i_nat_gcd.A):i_nat_gcd.A:=
 if decide (x6.1>0)then if decide (x6.1=0)then none else g7 (Int.tmod x6.2.1 x6.1,x6.1,())else(S.i_natOf (x6.2.1,())).bind fun y8=>some (y8.1,())
abbrev P.i_nat_gcd_b0 (k:Nat) (x1:List Int×List Int×Unit) (g2:List Int×List Int×Unit->i_nat_gcd.A):i_nat_gcd.A:=
 if decide ((x1.1.length:Int)>0)then(S.i_nat_small (x1.2.1,())).bind fun y3=>(S.i_nat_small (x1.1,())).bind fun y4=>if y3.1.2 then if y4.1.2 then loopP P.i_nat_gcd_b5 k (y4.1.1,y3.1.1,())else(S.i_nat_div (x1.2.1,x1.1,())).bind fun y9=>g2 (y9.1.2,x1.1,())else(S.i_nat_div (x1.2.1,x1.1,())).bind fun y10=>g2 (y10.1.2,x1.1,())else some (x1.2.1,())
def P.i_nat_gcd (k:Nat) (x:List Int×List Int×Unit):i_nat_gcd.A:=
 loopP (P.i_nat_gcd_b0 k) k (x.2.1,x.1,())
theorem ig_canon_pos {B:Nat} (hB:2<=B) {xs:List Int} (h:canon B xs=true) (hn:xs≠ []):a0c B xs≠0:=by
 intro q;have:=canon_eq h;rw[q,nd_zero hB]at this;exact hn this.symm
theorem ig_shorter {B:Nat} (hB:2<=B) {m n:Nat} (h:m<=n):(nd B m).length<=(nd B n).length:=by
 rw[nd_len hB];exact Nat.lt_of_le_of_lt h ((nd_len hB n _).1 (Nat.le_refl _))
theorem ig_small (n:Nat):∀(x y:Nat) (k:Nat),y<=n->n<k->x<18446744073709551616->y<18446744073709551616->loopP P.i_nat_gcd_b5 k ((y:Int),((x:Int),()))=some (nd B32 (Nat.gcd x y),()):=by
 induction n using Nat.strongRecOn with
 |ind n ih=>
  intro x y k hn hk hx hy;obtain⟨k,rfl⟩:∃j,k=j+1:=⟨k - 1,by omega⟩
  rw[a0k];unfold P.i_nat_gcd_b5;dsimp only
  by_cases hb:y=0
  ·subst hb;rw[if_neg (by simp),Nat.gcd_zero_right];unfold S.i_natOf;dsimp only;rw[if_pos ⟨by omega,by omega⟩,Option.bind_some,Int.toNat_natCast]
  ·have hm:=Nat.mod_lt x (show 0<y by omega);have c1:(y:Int)>0:=by omega
   have c2:¬((y:Int)=0):=by omega
   rw[if_pos (decide_eq_true c1),if_neg (by simpa using hb),Int.tmod_eq_emod_of_nonneg (by omega),<-Int.natCast_emod,ih (x%y) (by omega) y (x%y) k (Nat.le_refl _) (by omega) hy (by omega),gcd_step]
theorem ig_loop (K n:Nat):∀(as bs:List Int) (k:Nat),canon B32 as=true->canon B32 bs=true->as.length<=100000000->bs.length<=100000000->a0c B32 bs<=n->n<k->n<K->loopP (P.i_nat_gcd_b0 K) k (bs,(as,()))=some (nd B32 (Nat.gcd (a0c B32 as) (a0c B32 bs)),()):=by
 induction n using Nat.strongRecOn with
 |ind n ih=>
  intro as bs k ca cb la lb hn hk hK;obtain⟨k,rfl⟩:∃j,k=j+1:=⟨k - 1,by omega⟩
  rw[a0k];unfold P.i_nat_gcd_b0;dsimp only
  by_cases hb:bs=[]
  ·subst hb;rw[if_neg (by simp),show a0c B32 []=0 from rfl,Nat.gcd_zero_right,canon_eq ca]
  ·have hpos:0<bs.length:=List.length_pos_iff.2 hb;have hb0:=ig_canon_pos a0e cb hb;have hm:=Nat.mod_lt (a0c B32 as) (show 0<a0c B32 bs by omega);have hc:(bs.length:Int)>0:=by omega
   rw[if_pos (decide_eq_true hc)];have sa:S.i_nat_small (as,())=some ((if as.length<=2 then((a0c B32 as:Nat):Int)else 0,decide (as.length<=2)),()):=by
    unfold S.i_nat_small;exact if_pos ⟨canon_dig ca,by dsimp only;omega⟩
   have sb:S.i_nat_small (bs,())=some ((if bs.length<=2 then((a0c B32 bs:Nat):Int)else 0,decide (bs.length<=2)),()):=by
    unfold S.i_nat_small;exact if_pos ⟨canon_dig cb,by dsimp only;omega⟩
   rw[sa,Option.bind_some,sb,Option.bind_some];dsimp only;have hsmall:∀xs:List Int,dig B32 xs=true->xs.length<=2->a0c B32 xs<18446744073709551616:=by
    intro xs hd hl;have h1:=dval_lt hd;have h2:B32^xs.length<=B32^2:=Nat.pow_le_pow_right (by decide) hl;have h3:B32^2=18446744073709551616:=rfl;omega
   have hbig:Option.bind (S.i_nat_div (as,(bs,()))) (fun(y9:(((List Int)×(List Int))×Unit))=>(loopP (P.i_nat_gcd_b0 K) k (y9.1.2,(bs,()))))=some (nd B32 (Nat.gcd (a0c B32 as) (a0c B32 bs)),()):=by
    unfold S.i_nat_div;dsimp only;rw[if_pos ⟨ca,cb,hb,la,lb⟩,Option.bind_some];dsimp only;have hl:(nd B32 (a0c B32 as%a0c B32 bs)).length<=bs.length:=by
     have:=ig_shorter a0e (Nat.le_of_lt hm);rwa [canon_eq cb]at this
    have hd:a0c B32 (nd B32 (a0c B32 as%a0c B32 bs))=a0c B32 as%a0c B32 bs:=a0i a0e _;rw[ih (a0c B32 as%a0c B32 bs) (by omega) bs _ k cb (a0j a0e _) lb (by omega) (by rw[hd];exact Nat.le_refl _) (by omega) (by omega),hd,gcd_step]
   by_cases c1:as.length<=2
   ·by_cases c2:bs.length<=2
    ·have s1:=hsmall as (canon_dig ca) c1;have s2:=hsmall bs (canon_dig cb) c2;simp only[c1,c2,decide_true,if_true];exact ig_small n _ _ K hn hK s1 s2
    ·rw[if_pos (decide_eq_true c1),if_neg (by simpa using c2)];exact hbig
   ·rw[if_neg (by simpa using c1)];exact hbig
def S.i_nat_gcd (x:((List Int)×((List Int)×Unit))):(Option ((List Int)×Unit)):=if canon B32 x.1=true/\canon B32 x.2.1=true/\x.1.length<=100000000/\x.2.1.length<=100000000 then some (nd B32 (Nat.gcd (a0c B32 x.1) (a0c B32 x.2.1)),())else none
theorem S.i_nat_gcd_ok (x r) (h:S.i_nat_gcd x=some r):∃k,P.i_nat_gcd k x=some r:=by
 obtain⟨as,bs,u⟩:=x;unfold S.i_nat_gcd at h;dsimp only at h;split at h
 case isFalse=>cases h
 rename_i hc;obtain⟨ca,cb,la,lb⟩:=hc;cases h;refine⟨a0c B32 bs+1,?_⟩;unfold P.i_nat_gcd;exact ig_loop _ (a0c B32 bs) as bs _ ca cb la lb (Nat.le_refl _) (by omega) (by omega)
def P.i_lowest (k:Nat) (x:Bool×List Int×List Int×Unit):Option (RB×Unit):=
 if(x.2.1.length:Int)==0 then(S.i_natOf (1,())).bind fun y0=>some ((false,[],y0.1),())else(S.i_nat_gcd (x.2.1,x.2.2.1,())).bind fun y1=>if(y1.1.length:Int)==1 then if decide (0<(y1.1.length:Int))then if(y1.1.getD 0 0)==1 then some ((x.1,x.2.1,x.2.2.1),())else(S.i_nat_div (x.2.1,y1.1,())).bind fun y2=>(S.i_nat_div (x.2.2.1,y1.1,())).bind fun y3=>some ((x.1,y2.1.1,y3.1.1),())else none else(S.i_nat_div (x.2.1,y1.1,())).bind fun y4=>(S.i_nat_div (x.2.2.1,y1.1,())).bind fun y5=>some ((x.1,y4.1.1,y5.1.1),())
def S.i_lowest (x:(Bool×((List Int)×((List Int)×Unit)))):(Option (RB×Unit)):=if canon B32 x.2.1=true/\canon B32 x.2.2.1=true/\x.2.2.1≠ []/\x.2.1.length<=100000000/\x.2.2.1.length<=100000000 then some (rp B32 (lowN x.1 (a0c B32 x.2.1) (a0c B32 x.2.2.1)),())else none
theorem S.i_lowest_ok (x r) (h:S.i_lowest x=some r):∃k,P.i_lowest k x=some r:=by
 obtain⟨neg,as,bs',u⟩:=x;unfold S.i_lowest at h;dsimp only at h;split at h
 case isFalse=>cases h
 rename_i hc;obtain⟨ca,cb,hne,la,lb⟩:=hc;cases h;refine⟨0,?_⟩;unfold P.i_lowest;dsimp only;have hb0:a0c B32 bs'≠0:=fun e=>hne ((canon_nil a0e cb).2 e)
 by_cases ha:as=[]
 ·subst ha;rw[if_pos (by rfl)];unfold S.i_natOf lowN rp;dsimp only;rw[if_pos ⟨by decide,by decide⟩,Option.bind_some,show a0c B32 []=0 from rfl,Nat.gcd_zero_left,Nat.zero_div,Nat.div_self (by omega),nd_zero a0e];simp
 ·have ha0:a0c B32 as≠0:=fun e=>ha ((canon_nil a0e ca).2 e)
  rw[if_neg (by simpa using ha)];have hg:=gcd_len a0e ca cb hb0;have hgp:0<Nat.gcd (a0c B32 as) (a0c B32 bs'):=Nat.gcd_pos_of_pos_right _ (by omega);have e1:S.i_nat_gcd (as,(bs',()))=some (nd B32 (Nat.gcd (a0c B32 as) (a0c B32 bs')),()):=by
   unfold S.i_nat_gcd;exact if_pos ⟨ca,cb,la,lb⟩
  rw[e1,Option.bind_some];dsimp only;unfold lowN rp;dsimp only;rw[decide_eq_true ha0,Bool.and_true];have hgne:nd B32 (Nat.gcd (a0c B32 as) (a0c B32 bs'))≠ []:=by
   rw[nd_pos a0e (by omega)];simp
  have hgd:a0c B32 (nd B32 (Nat.gcd (a0c B32 as) (a0c B32 bs')))=Nat.gcd (a0c B32 as) (a0c B32 bs'):=a0i a0e _;have hgc:canon B32 (nd B32 (Nat.gcd (a0c B32 as) (a0c B32 bs')))=true:=a0j a0e _;have e2:∀xs,canon B32 xs=true->xs.length<=100000000->S.i_nat_div (xs,(nd B32 (Nat.gcd (a0c B32 as) (a0c B32 bs')),()))=some ((nd B32 (a0c B32 xs/Nat.gcd (a0c B32 as) (a0c B32 bs')),nd B32 (a0c B32 xs%Nat.gcd (a0c B32 as) (a0c B32 bs'))),()):=by
   intro xs cx lx;unfold S.i_nat_div;dsimp only;rw[if_pos ⟨cx,hgc,hgne,lx,by omega⟩,hgd]
  rw[e2 as ca la,Option.bind_some,e2 bs' cb lb,Option.bind_some];dsimp only;have hone:nd B32 (Nat.gcd (a0c B32 as) (a0c B32 bs'))=[1]->as=nd B32 (a0c B32 as/Nat.gcd (a0c B32 as) (a0c B32 bs'))/\bs'=nd B32 (a0c B32 bs'/Nat.gcd (a0c B32 as) (a0c B32 bs')):=by
   intro e;rw[e,dval_one]at hgd;rw[<-hgd,Nat.div_one,Nat.div_one,canon_eq ca,canon_eq cb];exact⟨rfl,rfl⟩
  generalize hgl:nd B32 (Nat.gcd (a0c B32 as) (a0c B32 bs'))=gl at*
  by_cases h1:gl.length=1
  ·have d1:(((gl.length:Nat):Int)==(1:Int))=true:=by simp [h1]
   have d2:(0:Int)<(gl.length:Int):=by omega
   rw[if_pos d1,if_pos (decide_eq_true d2)];obtain⟨g0,rfl⟩:∃g0,gl=[g0]:=by
    match gl,h1 with
    | [g0],_=>exact⟨g0,rfl⟩
   by_cases h2:g0=1
   ·subst h2;rw[if_pos (by rfl),<-(hone rfl).1,<-(hone rfl).2]
   ·rw[if_neg (by simpa using h2)]
  ·have d1:¬(((gl.length:Nat):Int)==(1:Int))=true:=by simp;omega
   rw[if_neg d1]
def P.i_rat_sign (k:Nat) (x:RB×Unit):Option (Int×Unit):=
 if(x.1.2.1.length:Int)==0 then some (0,())else if x.1.1 then some ((-1:Int),())else some (1,())
def S.a0v (x:(RB×Unit)):(Option (Int×Unit)):=if canon B32 x.1.2.1=true then some (sgnQ x.1.1 (a0c B32 x.1.2.1),())else none
theorem S.i_rat_sign_ok (x r) (h:S.a0v x=some r):∃k,P.i_rat_sign k x=some r:=by
 obtain⟨⟨n,as,bs⟩,u⟩:=x;unfold S.a0v at h;dsimp only at h;split at h
 case isFalse=>cases h
 rename_i ca;cases h;refine⟨0,?_⟩;unfold P.i_rat_sign sgnQ;dsimp only;have h:=canon_nil a0e ca
 by_cases h0:as=[]
 ·rw[if_pos (h.1 h0),h0,if_pos (by rfl)]
 ·rw[if_neg (fun q=>h0 (h.2 q)),if_neg (by simpa using h0)];cases n<;>rfl
end Go.Cm
end
