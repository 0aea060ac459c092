import Derived.Test.YtdpljomfkoojnaaGreatDoorPlReverseChainb
set_option linter.unusedVariables false
set_option maxRecDepth 100000
noncomputable section
namespace Go.Cm
open IntKind (wrap)
abbrev s_l03Rest.A:=Int×Int×List (List RB)×Int×List RB×List (List RB×Nat)×Unit
abbrev s_l03Rest.B:=Int×Int×List (List RB)×List (List RB×Nat)×Unit
abbrev s_l03Rest.C:=Option ((List RB×Bool)×Unit)
abbrev P.b2u (g3:s_l03Rest.B->s_l03Rest.C) (x6:s_l03Rest.A) (g7:s_l03Rest.A->s_l03Rest.C):s_l03Rest.C:=
 (fun(a b d:Int) (c:List (List RB)) (e:List RB) (f:List (List RB×Nat))=>if decide (a<b)then if decide (0<=a)then if decide (a<(c.length:Int))then if decide (0<=d)then if decide (d<(List.length (c.getD a.toNat []):Int))then if a==d then(S.b3x ()).bind fun y8=>(S.a7i (((List.getD (c.getD a.toNat []) d.toNat (false,[],[])).1,(List.getD (c.getD a.toNat []) d.toNat (false,[],[])).2.1,(List.getD (c.getD a.toNat []) d.toNat (false,[],[])).2.2),(y8.1.1,y8.1.2.1,y8.1.2.2),())).bind fun y9=>if d==(wrap .i64 (b - 1))then(S.b3x ()).bind fun y10=>if decide (((e.length+(List.length [(y10.1.1,y10.1.2.1,y10.1.2.2)]))*56)<=140737488355328)then if dup (List.map (fun(y11:Nat×Nat)=>y11.1) (hd0 f))then none else g7 (wrap .i64 (a+1),b,c,d,e++[(y10.1.1,y10.1.2.1,y10.1.2.2)],nrm (hd0 f) (in0 f),())else none else if decide (((e.length+(List.length [(y9.1.1,y9.1.2.1,y9.1.2.2)]))*56)<=140737488355328)then if dup (List.map (fun(y12:Nat×Nat)=>y12.1) (hd0 f))then none else g7 (wrap .i64 (a+1),b,c,d,e++[(y9.1.1,y9.1.2.1,y9.1.2.2)],nrm (hd0 f) (in0 f),())else none else if d==(wrap .i64 (b - 1))then(S.b3x ()).bind fun y13=>if decide (((e.length+(List.length [(y13.1.1,y13.1.2.1,y13.1.2.2)]))*56)<=140737488355328)then if dup (List.map (fun(y14:Nat×Nat)=>y14.1) (hd0 f))then none else g7 (wrap .i64 (a+1),b,c,d,e++[(y13.1.1,y13.1.2.1,y13.1.2.2)],nrm (hd0 f) (in0 f),())else none else if decide (((e.length+(List.length [((List.getD (c.getD a.toNat []) d.toNat (false,[],[])).1,(List.getD (c.getD a.toNat []) d.toNat (false,[],[])).2.1,(List.getD (c.getD a.toNat []) d.toNat (false,[],[])).2.2)]))*56)<=140737488355328)then if dup (List.map (fun(y15:Nat×Nat)=>y15.1) (hd0 f))then none else g7 (wrap .i64 (a+1),b,c,d,e++[((List.getD (c.getD a.toNat []) d.toNat (false,[],[])).1,(List.getD (c.getD a.toNat []) d.toNat (false,[],[])).2.1,(List.getD (c.getD a.toNat []) d.toNat (false,[],[])).2.2)],nrm (hd0 f) (in0 f),())else none else none else none else none else none else(S.b7e ()).bind fun y16=>if d==(wrap .i64 (b - 1))then(S.b3x ()).bind fun y17=>if decide (((e.length+(List.length [(y17.1.1,y17.1.2.1,y17.1.2.2)]))*56)<=140737488355328)then if decide ((((List.length (hd0 f))+(List.length (hd0 [(e++[(y17.1.1,y17.1.2.1,y17.1.2.2)],List.length (e++[(y17.1.1,y17.1.2.1,y17.1.2.2)]))])))*24)<=140737488355328)then if dup (List.map (fun(y18:Nat×Nat)=>y18.1) (a7k (List.length (in0 f)) (hd0 f) (hd0 [(e++[(y17.1.1,y17.1.2.1,y17.1.2.2)],List.length (e++[(y17.1.1,y17.1.2.1,y17.1.2.2)]))])))then none else g3 (wrap .i64 (d+1),b,c,nrm (a7k (List.length (in0 f)) (hd0 f) (hd0 [(e++[(y17.1.1,y17.1.2.1,y17.1.2.2)],List.length (e++[(y17.1.1,y17.1.2.1,y17.1.2.2)]))])) ((in0 f)++[e++[(y17.1.1,y17.1.2.1,y17.1.2.2)]]),())else none else none else if decide (((e.length+(List.length [(y16.1.1,y16.1.2.1,y16.1.2.2)]))*56)<=140737488355328)then if decide ((((List.length (hd0 f))+(List.length (hd0 [(e++[(y16.1.1,y16.1.2.1,y16.1.2.2)],List.length (e++[(y16.1.1,y16.1.2.1,y16.1.2.2)]))])))*24)<=140737488355328)then if dup (List.map (fun(y19:Nat×Nat)=>y19.1) (a7k (List.length (in0 f)) (hd0 f) (hd0 [(e++[(y16.1.1,y16.1.2.1,y16.1.2.2)],List.length (e++[(y16.1.1,y16.1.2.1,y16.1.2.2)]))])))then none else g3 (wrap .i64 (d+1),b,c,nrm (a7k (List.length (in0 f)) (hd0 f) (hd0 [(e++[(y16.1.1,y16.1.2.1,y16.1.2.2)],List.length (e++[(y16.1.1,y16.1.2.1,y16.1.2.2)]))])) ((in0 f)++[e++[(y16.1.1,y16.1.2.1,y16.1.2.2)]]),())else none else none) x6.1 x6.2.1 x6.2.2.2.1 x6.2.2.1 x6.2.2.2.2.1 x6.2.2.2.2.2.1
abbrev P.b5y (k:Nat) (x2:s_l03Rest.B) (g3:s_l03Rest.B->s_l03Rest.C):s_l03Rest.C:=
 if decide (x2.1<x2.2.1)then if dup (List.map (fun(y4:Nat×Nat)=>y4.1) (hd0 x2.2.2.2.1))then none else loopP (P.b2u g3) k (0,x2.2.1,x2.2.2.1,x2.1,[],nrm (hd0 x2.2.2.2.1) (in0 x2.2.2.2.1),())else if dup (List.map (fun(y20:Nat×Nat)=>y20.1) (hd0 x2.2.2.2.1))then none else(S.b4m (nrm (hd0 x2.2.2.2.1) (in0 x2.2.2.2.1),())).bind fun y21=>some ((y21.1.1,y21.1.2),())
def P.d3p (k:Nat) (x:List (List RB)×Unit):s_l03Rest.C:=
 (S.a4n (x.1,())).bind fun y0=>if(y0.1.2.length:Int) != 1 then some (([],false),())else loopP (P.b5y k) k (0,(x.1.length:Int),x.1,nrm (hd0 ([]:List (List RB×Nat))) (in0 ([]:List (List RB×Nat))),())
theorem g0l:S.b3x ()=some (rp B10 c4c,()):=by rfl
theorem g5m:S.b7e ()=some (rp B10 a3f,()):=by rfl
theorem h0z {M:List (List Q3)} (h:c2o M) {j:Nat} (hj:j<M.length) (g) {K:Nat} (hK:12<K):
  loopP (P.b2u g) K ((0:Int),(M.length:Int),mp B10 M,(j:Int),([]:List (Bool×(List Int×List Int))),om B10 j (M.length+1) (a9h M),())=g (((j+1:Nat):Int),(M.length:Int),mp B10 M,om B10 (j+1) (M.length+1) (a9h M),()):=by
 have hn:=h.2.1.1;have key:=a0f (k:=K) (b:=P.b2u g) (n:=M.length) (st:=fun i=>((i:Int),(M.length:Int),mp B10 M,(j:Int),(tab i (a9h M j)).map (rp B10),om B10 j (M.length+1) (a9h M),())) (F:=fun _=>g (((j+1:Nat):Int),(M.length:Int),mp B10 M,om B10 (j+1) (M.length+1) (a9h M),())) (fun i g' hi hg=>by
  unfold P.b2u;dsimp only at hg ⊢;have e1:(i:Int)<(M.length:Int):=by omega
  have e2:(0:Int)<=(i:Int):=by omega
  have e3:(0:Int)<=(j:Int):=by omega
  have e4:(j:Int)<(M.length:Int):=by omega
  have e7:(i+1)*56<=140737488355328:=by omega
  have e8:((mp B10 M).getD i []).getD j (false,(([]:List Int),([]:List Int)))=rp B10 (mq M i j):=e2n h.2.1 hi hj;have ha:=c3d h hi hj;have hv:a9h M j i=if j+1=M.length then c4c else if i=j then b6j (mq M i j) (d4u c4c)else mq M i j:=by
   unfold a9h;rw[if_neg (by omega)]
  have hmin:S.a7i (((rp B10 (mq M i j)).1,(rp B10 (mq M i j)).2.1,(rp B10 (mq M i j)).2.2),((rp B10 c4c).1,(rp B10 c4c).2.1,(rp B10 c4c).2.2),())=some (rp B10 (b6j (mq M i j) (d4u c4c)),()):=g8f ha.1 ha.2.1 b5v (d7l (n:=1) (by decide)) (by decide) (by decide);rw[<-c0r,hv]at hg;simp only[Int.toNat_natCast,a4b,e2o h.2.1 hi,List.length_map,a1r,List.length_cons,List.length_nil,Nat.zero_add,a0r,a0w,e1,e2,e3,e4,e7,e8,decide_true,if_true,Bool.false_eq_true,if_false];rw[wr (x:=(i:Int)+1) (by omega) (by omega),wr (x:=(M.length:Int) - 1) (by omega) (by omega),g0l,Option.bind_some,Option.bind_some,hmin,Option.bind_some];dsimp only
  by_cases hij:i=j
  ·rw[if_pos (by rw[beq_iff_eq];omega)]
   by_cases hjn:j+1=M.length
   ·rw[if_pos hjn]at hg;rw[if_pos (by rw[beq_iff_eq];omega)];exact hg
   ·rw[if_neg hjn,if_pos hij]at hg;rw[if_neg (by rw[beq_iff_eq];omega)];exact hg
  ·rw[if_neg (by rw[beq_iff_eq];omega)]
   by_cases hjn:j+1=M.length
   ·rw[if_pos hjn]at hg;rw[if_pos (by rw[beq_iff_eq];omega)];exact hg
   ·rw[if_neg hjn,if_neg hij]at hg;rw[if_neg (by rw[beq_iff_eq];omega)];exact hg) (fun g'=>by
  unfold P.b2u;dsimp only;have e1:(M.length+1)*56<=140737488355328:=by omega
  have e3:(j+1)*24<=140737488355328:=by omega
  have e2:= @g8n B10 j (M.length+1) (a9h M);have hv:a9h M j M.length=if j+1=M.length then c4c else a3f:=by
   unfold a9h;rw[if_pos rfl]
  rw[<-c0r,hv]at e2;rw[if_neg (by simp),g5m,Option.bind_some,wr (x:=(j:Int)+1) (by omega) (by omega),wr (x:=(M.length:Int) - 1) (by omega) (by omega),g0l,Option.bind_some];dsimp only;have hlen:∀q:Bool×(List Int×List Int),((tab M.length (a9h M j)).map (rp B10)++[q]).length=M.length+1:=fun q=>by simp [a1r]
  by_cases hjn:j+1=M.length
  ·rw[if_pos hjn]at e2;rw[if_pos (by rw[beq_iff_eq];omega)];have e4:((rp B10 c4c).1,(rp B10 c4c).2.1,(rp B10 c4c).2.2)=rp B10 c4c:=rfl;simp only[e4,hlen,a0k,a3t,List.length_map,a1r,List.length_cons,List.length_nil,Nat.zero_add,e1,e3,e2.1,e2.2,decide_true,if_true,Bool.false_eq_true,if_false];rfl
  ·rw[if_neg hjn]at e2;rw[if_neg (by rw[beq_iff_eq];omega)];have e4:((rp B10 a3f).1,(rp B10 a3f).2.1,(rp B10 a3f).2.2)=rp B10 a3f:=rfl;simp only[e4,hlen,a0k,a3t,List.length_map,a1r,List.length_cons,List.length_nil,Nat.zero_add,e1,e3,e2.1,e2.2,decide_true,if_true,Bool.false_eq_true,if_false];rfl) (by omega)
 exact key
open Classical in
def S.b7b (x:((List (List RB))×Unit)):(Option (((List RB)×Bool)×Unit)):=if ∃M,c2o M/\x.1=mp B10 M then some (((e7y (mv B10 x.1)).1.map (rp B10),(e7y (mv B10 x.1)).2),())else none
theorem S.e6s (x r) (h:S.b7b x=some r):∃k,P.d3p k x=some r:=by
 obtain⟨m,u⟩:=x;unfold S.b7b at h;dsimp only at h;split at h
 case isFalse=>cases h
 rename_i hc;obtain⟨M,hM,rfl⟩:=hc;cases h;rw[b3r (by decide)];have hI:=hM.2.1;have hn:=hI.1;refine⟨13,?_⟩;unfold P.d3p;dsimp only;have ec:S.a4n (mp B10 M,())=some (((a9u M).1,a5o 0 (a9u M).2),()):=by
  unfold S.a4n;dsimp only;rw[if_pos ⟨M,hI,rfl⟩,b3r (by decide)]
 rw[ec,Option.bind_some];dsimp only
 by_cases h1:(a5o 0 (a9u M).2).length=1
 case neg=>
  rw[if_pos (by simpa using(show ¬((a5o 0 (a9u M).2).length:Int)=1 by omega)),d8i h1];rfl
 rw[if_neg (by simpa using(show((a5o 0 (a9u M).2).length:Int)=1 by omega))];obtain⟨k,hk⟩:=f1z h1;rw[c5i hk,a0w,a4b];have hels:=g6u (full:=true) rfl hn (f6n hM) (d8g hM hk);have key:=a0f (k:=13) (b:=P.b5y 13) (n:=M.length) (st:=fun j=>((j:Int),(M.length:Int),mp B10 M,om B10 j (M.length+1) (a9h M),())) (F:=fun _=>some (((tab M.length (a2c M (clC M k))).map (rp B10),true),())) (fun j g hj hg=>by
  unfold P.b5y;dsimp only at hg ⊢;rw[if_pos (decide_eq_true (by omega)),a0r,a0w,if_neg (by decide),<-hg];exact h0z hM hj g (by decide)) (fun g=>by
  unfold P.b5y;dsimp only;rw[if_neg (by simp),a0r,a0w,if_neg (by decide),h1i hels,Option.bind_some];dsimp only;rw[a1z fun i hi=>g1z hM hk i hi]) (by omega)
 exact key
abbrev s_l03Reverse.A:=Int×Int×List RB×List RB×List (List RB)×Int×List (List RB)×Int×Int×List (List RB)×Unit
abbrev s_l03Reverse.B:=Int×Int×List (List RB)×List RB×List (List RB)×List (List RB)×Unit
abbrev s_l03Reverse.C:=Option ((List (List RB)×Bool)×Unit)
abbrev P.a6q (g7:s_l03Reverse.B->s_l03Reverse.C) (x9:s_l03Reverse.A) (g10:s_l03Reverse.A->s_l03Reverse.C):s_l03Reverse.C:=
 (fun(a b f i j:Int) (c d:List RB) (e h l:List (List RB))=>if decide (a<b)then if decide (0<=a)then if decide (a<(d.length:Int))then if decide (0<=a)then if decide (a<(e.length:Int))then if decide (0<=f)then if decide (f<(List.length (e.getD a.toNat []):Int))then(S.a7g (((d.getD a.toNat (false,[],[])).1,(d.getD a.toNat (false,[],[])).2.1,(d.getD a.toNat (false,[],[])).2.2),((List.getD (e.getD a.toNat []) f.toNat (false,[],[])).1,(List.getD (e.getD a.toNat []) f.toNat (false,[],[])).2.1,(List.getD (e.getD a.toNat []) f.toNat (false,[],[])).2.2),())).bind fun y11=>if decide (0<=f)then if decide (f<(d.length:Int))then(S.a7y ((y11.1.1,y11.1.2.1,y11.1.2.2),((d.getD f.toNat (false,[],[])).1,(d.getD f.toNat (false,[],[])).2.1,(d.getD f.toNat (false,[],[])).2.2),())).bind fun y12=>if decide (((c.length+(List.length [(y12.1.1,y12.1.2.1,y12.1.2.2)]))*56)<=140737488355328)then g10 (wrap .i64 (a+1),b,c++[(y12.1.1,y12.1.2.1,y12.1.2.2)],d,e,f,h,i,j,l,())else none else none else none else none else none else none else none else none else none else if decide (((h.length+(List.length [c]))*24)<=140737488355328)then g7 (wrap .i64 (i+1),j,e,d,h++[c],l,())else none) x9.1 x9.2.1 x9.2.2.2.2.2.1 x9.2.2.2.2.2.2.2.1 x9.2.2.2.2.2.2.2.2.1 x9.2.2.1 x9.2.2.2.1 x9.2.2.2.2.1 x9.2.2.2.2.2.2.1 x9.2.2.2.2.2.2.2.2.2.1
abbrev P.a9y (k:Nat) (x6:s_l03Reverse.B) (g7:s_l03Reverse.B->s_l03Reverse.C):s_l03Reverse.C:=
 if decide (x6.1<x6.2.1)then loopP (P.a6q g7) k (0,(x6.2.2.1.length:Int),[],x6.2.2.2.1,x6.2.2.1,x6.1,x6.2.2.2.2.1,x6.1,x6.2.1,x6.2.2.2.2.2.1,())else some ((x6.2.2.2.2.1,true),())
abbrev P.a4z (k:Nat) (x2:Int×Int×List Int×List (List RB)×List (List RB)×Unit) (g3:Int×Int×List Int×List (List RB)×List (List RB)×Unit->s_l03Reverse.C):s_l03Reverse.C:=
 if decide (x2.1<x2.2.1)then if decide (0<=x2.1)then if decide (x2.1<(x2.2.2.1.length:Int))then if(x2.2.2.1.getD x2.1.toNat 0) != 0 then some (([],false),())else g3 (wrap .i64 (x2.1+1),x2.2.1,x2.2.2.1,x2.2.2.2.1,x2.2.2.2.2.1,())else none else none else(S.b7b (x2.2.2.2.2.1,())).bind fun y4=>loopP (P.a9y k) k (0,(x2.2.2.2.2.1.length:Int),x2.2.2.2.2.1,y4.1.1,[],x2.2.2.2.1,())
def P.c0h (k:Nat) (x:List (List RB)×Unit):s_l03Reverse.C:=
 (S.a4n (x.1,())).bind fun y0=>loopP (P.a4z k) k (0,(y0.1.1.length:Int),y0.1.1,[],x.1,())
theorem h1a {M:List (List Q3)} (h:c2o M) (h1:d6u M=true) {i:Nat} (hi:i<M.length) (g) {K:Nat} (hK:12<K):
  loopP (P.a6q g) K ((0:Int),(M.length:Int),([]:List (Bool×(List Int×List Int))),(tab M.length (a2c M (clC M 0))).map (rp B10),mp B10 M,(i:Int),mp B10 (tab i fun i=>tab M.length (c7v M i)),(i:Int),(M.length:Int),([]:List (List (Bool×(List Int×List Int)))),())=g (((i+1:Nat):Int),(M.length:Int),mp B10 M,(tab M.length (a2c M (clC M 0))).map (rp B10),mp B10 (tab (i+1) fun i=>tab M.length (c7v M i)),([]:List (List (Bool×(List Int×List Int)))),()):=by
 have hn:=h.2.1.1;obtain⟨o1,o2⟩:=g2k h h1;have key:=a0f (k:=K) (b:=P.a6q g) (n:=M.length) (st:=fun j=>((j:Int),(M.length:Int),(tab j (c7v M i)).map (rp B10),(tab M.length (a2c M (clC M 0))).map (rp B10),mp B10 M,(i:Int),mp B10 (tab i fun i=>tab M.length (c7v M i)),(i:Int),(M.length:Int),([]:List (List (Bool×(List Int×List Int)))),())) (F:=fun _=>g (((i+1:Nat):Int),(M.length:Int),mp B10 M,(tab M.length (a2c M (clC M 0))).map (rp B10),mp B10 (tab (i+1) fun i=>tab M.length (c7v M i)),([]:List (List (Bool×(List Int×List Int)))),())) (fun j g' hj hg=>by
  unfold P.a6q;dsimp only at hg ⊢;have e1:(j:Int)<(M.length:Int):=by omega
  have e2:(0:Int)<=(j:Int):=by omega
  have e3:(0:Int)<=(i:Int):=by omega
  have e4:(i:Int)<(M.length:Int):=by omega
  have e7:(j+1)*56<=140737488355328:=by omega
  have e8:((mp B10 M).getD j []).getD i (false,(([]:List Int),([]:List Int)))=rp B10 (mq M j i):=e2n h.2.1 hj hi;have em:S.a7g (((rp B10 (a2c M (clC M 0) j)).1,(rp B10 (a2c M (clC M 0) j)).2.1,(rp B10 (a2c M (clC M 0) j)).2.2),((rp B10 (mq M j i)).1,(rp B10 (mq M j i)).2.1,(rp B10 (mq M j i)).2.2),())=some (rp B10 (b8c (a2c M (clC M 0) j) (mq M j i)),()):=g8e (o1 j hj).1 (o1 j hj).2 (c3d h hj hi).1 (c3d h hj hi).2.1 (Nat.le_refl _) (by decide);have eo:S.a7y (((rp B10 (b8c (a2c M (clC M 0) j) (mq M j i))).1,(rp B10 (b8c (a2c M (clC M 0) j) (mq M j i))).2.1,(rp B10 (b8c (a2c M (clC M 0) j) (mq M j i))).2.2),((rp B10 (a2c M (clC M 0) i)).1,(rp B10 (a2c M (clC M 0) i)).2.1,(rp B10 (a2c M (clC M 0) i)).2.2),())=some (rp B10 (c7v M i j),()):=g0y (o2 i hi j hj).1.1 (o2 i hi j hj).1.2 (o1 i hi).1 (o1 i hi).2 (e2r h h1 hi) (Nat.le_refl _) (Nat.le_refl _);simp only[Int.toNat_natCast,a4b,e2o h.2.1 hj,List.length_map,a1r,List.length_cons,List.length_nil,Nat.zero_add,b2w hj,b2w hi,e1,e2,e3,e4,e7,e8,decide_true,if_true];rw[em,Option.bind_some];dsimp only;rw[eo,Option.bind_some];dsimp only;rw[wr (by omega) (by omega)];rw[<-c0r]at hg;exact hg) (fun g'=>by
  unfold P.a6q;dsimp only;have e3:(i+1)*24<=140737488355328:=by omega
  rw[if_neg (by simp)];simp only[a4b,a1r,List.length_cons,List.length_nil,Nat.zero_add,e3,decide_true,if_true];rw[wr (by omega) (by omega)];have:mp B10 (tab (i+1) fun i=>tab M.length (c7v M i))=mp B10 (tab i fun i=>tab M.length (c7v M i))++[(tab M.length (c7v M i)).map (rp B10)]:=by
   unfold mp;rw[c1k,List.map_append];rfl
  rw[this];rfl) (by omega)
 exact key
open Classical in
def S.a8y (x:((List (List RB))×Unit)):(Option (((List (List RB))×Bool)×Unit)):=if ∃M,c2o M/\x.1=mp B10 M then some ((if d6u (mv B10 x.1)=true then(mp B10 (mat (mv B10 x.1).length (c7v (mv B10 x.1))),true)else([],false)),())else none
theorem S.d3q (x r) (h:S.a8y x=some r):∃k,P.c0h k x=some r:=by
 obtain⟨m,u⟩:=x;unfold S.a8y at h;dsimp only at h;split at h
 case isFalse=>cases h
 rename_i hc;obtain⟨M,hM,rfl⟩:=hc;cases h;rw[b3r (by decide)];have hI:=hM.2.1;have hn:=hI.1;refine⟨13,?_⟩;unfold P.c0h;dsimp only;have ec:S.a4n (mp B10 M,())=some (((a9u M).1,a5o 0 (a9u M).2),()):=by
  unfold S.a4n;dsimp only;rw[if_pos ⟨M,hI,rfl⟩,b3r (by decide)]
 have hl:(a9u M).1.length=M.length:=(b8j (rcB M) M.length M.length).1;rw[ec,Option.bind_some];dsimp only;rw[hl];have key:∀(m i F:Nat),i+m=M.length->m<F->(∀j,j<i->(a9u M).1.getD j 0=0)->loopP (P.a4z 13) F ((i:Int),(M.length:Int),(a9u M).1,([]:List (List (Bool×(List Int×List Int)))),mp B10 M,())=some ((if d6u M=true then(mp B10 (mat M.length (c7v M)),true)else([],false)),()):=by
  intro m
  induction m with
  |zero=>
   intro i F hi hF hz;obtain⟨F,rfl⟩:∃j,F=j+1:=⟨F - 1,by omega⟩
   rw[a0j];have hin:i=M.length:=by omega
   subst hin;have h1:=(d0h hM).2 hz;generalize loopP (P.a4z 13) F=g;unfold P.a4z;dsimp only;have er:S.b7b (mp B10 M,())=some (((tab M.length (a2c M (clC M 0))).map (rp B10),true),()):=by
    unfold S.b7b;dsimp only;rw[if_pos ⟨M,hM,rfl⟩,b3r (by decide),c5i (one_pos hM h1)]
   rw[if_neg (by simp),er,Option.bind_some,if_pos h1,a4b];dsimp only;have key2:=a0f (k:=13) (b:=P.a9y 13) (n:=M.length) (st:=fun i=>((i:Int),(M.length:Int),mp B10 M,(tab M.length (a2c M (clC M 0))).map (rp B10),mp B10 (tab i fun i=>tab M.length (c7v M i)),([]:List (List (Bool×(List Int×List Int)))),())) (F:=fun _=>some ((mp B10 (mat M.length (c7v M)),true),())) (fun i g hi hg=>by
    unfold P.a9y;dsimp only at hg ⊢;rw[if_pos (decide_eq_true (by omega)),a4b,<-hg];exact h1a hM h1 hi g (by decide)) (fun g=>by
    unfold P.a9y;dsimp only;rw[if_neg (by simp)];rfl) (by omega)
   exact key2
  |succ m ih=>
   intro i F hi hF hz;obtain⟨F,rfl⟩:∃j,F=j+1:=⟨F - 1,by omega⟩
   rw[a0j];have ih':=ih (i+1) F (by omega) (by omega);generalize loopP (P.a4z 13) F=g at ih' ⊢;unfold P.a4z;dsimp only;have e1:(i:Int)<(M.length:Int):=by omega
   have e2:(0:Int)<=(i:Int):=by omega
   simp only[hl,Int.toNat_natCast,e1,e2,decide_true,if_true]
   by_cases hz0:(a9u M).1.getD i 0=0
   ·rw[if_neg (by simpa using hz0),wr (by omega) (by omega)];exact ih' fun j hj=>by
     by_cases e:j=i
     ·rw[e];exact hz0
     ·exact hz j (by omega)
   ·rw[if_pos (by simpa using hz0),if_neg (fun q=>hz0 ((d0h hM).1 q i (by omega)))]
 exact key M.length 0 13 (by omega) (by omega) (fun j hj=>by omega)
def P.b2d (k:Nat) (x:List (List ByteArray)×Unit):Option (((List (List ByteArray×Nat)×Nat)×Bool)×Unit):=
 (S.b4l (x.1,())).bind fun y0=>if !y0.1.2 then some (((([]:List (List ByteArray×Nat)),0),false),())else(S.a8y (y0.1.1,())).bind fun y1=>if !y1.1.2 then some (((([]:List (List ByteArray×Nat)),0),false),())else(S.b7f (y1.1.1,())).bind fun y2=>if dup (List.map (fun(y3:Nat×Nat)=>y3.1) (hd0 y2.1.1.1))then none else some (((nrm (hd0 y2.1.1.1) (in0 y2.1.1.1),y2.1.1.2),y2.1.2),())
def S.a7u (x:((List (List ByteArray))×Unit)):(Option ((((List ((List ByteArray)×Nat))×Nat)×Bool)×Unit)):=P.b2d 0 x
theorem S.c7g (x r) (h:S.a7u x=some r):∃k,P.b2d k x=some r:=⟨0,h⟩
def P.c2z (k:Nat) (x:Int×Unit):Option (Int×Unit):=
 if decide (x.1<0)then some (wrap .u64 (0 - (wrap .u64 x.1)),())else some (wrap .u64 x.1,())
def S.b5g (x:(Int×Unit)):(Option (Int×Unit)):=if -9223372036854775808<=x.1/\x.1<=9223372036854775807 then some (((x.1.natAbs:Nat):Int),())else none
theorem S.d6m (x r) (h:S.b5g x=some r):∃k,P.c2z k x=some r:=by
 obtain⟨n,u⟩:=x;unfold S.b5g at h;dsimp only at h;split at h
 case isFalse=>cases h
 rename_i hc;cases h;refine⟨0,?_⟩;unfold P.c2z;dsimp only;have hw:∀y:Int,IntKind.wrap .u64 y=y%18446744073709551616:=fun _=>rfl
 rw[hw,hw]
 by_cases h0:n<0
 ·rw[if_pos (decide_eq_true h0)];congr 2;omega
 ·rw[if_neg (by simpa using h0)];congr 2;omega
abbrev P.b3u (x1:List Int×Unit) (g2:List Int×Unit->Option (List Int×Unit)):Option (List Int×Unit):=
 if decide ((x1.1.length:Int)>0)then if decide (0<=(wrap .i64 ((x1.1.length:Int) - 1)))then if decide ((wrap .i64 ((x1.1.length:Int) - 1))<(x1.1.length:Int))then if(x1.1.getD (Int.toNat (wrap .i64 ((x1.1.length:Int) - 1))) 0)==0 then if decide (0<=(wrap .i64 ((x1.1.length:Int) - 1)))then if decide ((wrap .i64 ((x1.1.length:Int) - 1))<=(x1.1.length:Int))then if decide (0<=(wrap .i64 ((x1.1.length:Int) - 1)))then g2 (seen x1.1 0 ((Int.toNat (wrap .i64 ((x1.1.length:Int) - 1))) - 0),())else none else none else none else some (x1.1,())else none else none else some (x1.1,())
def P.d8b (k:Nat) (x:List Int×Unit):Option (List Int×Unit):=
 loopP P.b3u k (x.1,())
theorem g0m (n:Nat):∀(xs:List Int) (k:Nat),xs.length=n->n<k->n<=1000000000000->dig B32 xs=true->loopP (X:=((List Int)×Unit)) (R:=((List Int)×Unit)) P.b3u k (xs,())=some (nd B32 (a0c B32 xs),()):=by
 induction n with
 |zero=>
  intro xs k hx hk _ _;have:xs=[]:=List.eq_nil_of_length_eq_zero hx;subst this;obtain⟨k,rfl⟩:∃j,k=j+1:=⟨k - 1,by omega⟩
  rw[a0j];unfold P.b3u;rw[if_neg (by simp)];rw[show a0c B32 []=0 from rfl,a1t a0e]
 |succ n ih=>
  intro xs k hx hk hn hd;obtain⟨k,rfl⟩:∃j,k=j+1:=⟨k - 1,by omega⟩
  rw[a0j];unfold P.b3u;dsimp only;have e0:IntKind.wrap .i64 ((xs.length:Int) - 1)=(n:Int):=by rw[wr (by omega) (by omega)];omega
  have e1:(xs.length:Int)>0:=by omega
  have e2:(0:Int)<=(n:Int):=by omega
  have e3:(n:Int)<(xs.length:Int):=by omega
  have e4:(n:Int)<=(xs.length:Int):=by omega
  rw[e0];simp only[e1,e2,e3,e4,decide_true,if_true];rw[a0n xs n _ (by omega)];have hs:=c3t xs n hx;have hdt:dig B32 (xs.take n++[xs[n]])=true:=by rw[<-hs];exact hd
  by_cases hz:xs[n]=0
  ·rw[if_pos (by simp [hz])];have e5:seen xs 0 ((n:Int).toNat - 0)=xs.take n:=by simp [seen]
   rw[e5];have hdt':=hdt;rw[a1m,Bool.and_eq_true]at hdt';rw[ih (xs.take n) k (by simp;omega) (by omega) (by omega) hdt'.1];have:a0c B32 xs=a0c B32 (xs.take n):=by
    conv=>lhs;rw[hs,hz]
    exact b1y _
   rw[this]
  ·rw[if_neg (by simp [hz])];have:=d1f a0e (xs.take n) xs[n] hdt hz;rw[<-hs]at this;rw[this]
def S.a3u (x:((List Int)×Unit)):(Option ((List Int)×Unit)):=if dig B32 x.1=true/\x.1.length<=1000000000000 then some (nd B32 (a0c B32 x.1),())else none
theorem S.e1m (x r) (h:S.a3u x=some r):∃k,P.d8b k x=some r:=by
 obtain⟨xs,u⟩:=x;unfold S.a3u at h;dsimp only at h;split at h
 case isFalse=>cases h
 rename_i hc;cases h;exact⟨xs.length+1,g0m xs.length xs _ rfl (by omega) hc.2 hc.1⟩
theorem g0n (xs:List Int) (h:dig B32 xs=true) (hl:xs.length<=1000000000000):S.a3u (xs,())=some (nd B32 (a0c B32 xs),()):=by
 unfold S.a3u;dsimp only;rw[if_pos ⟨h,hl⟩]
def P.f1g (k:Nat) (x:Int×Unit):Option (List Int×Unit):=
 (S.a3u ((wrap .u32 x.1)::[wrap .u32 (Int.fdiv x.1 4294967296)],())).bind fun y0=>some (y0.1,())
def S.a3d (x:(Int×Unit)):(Option ((List Int)×Unit)):=if 0<=x.1/\x.1<18446744073709551616 then some (nd B32 x.1.toNat,())else none
theorem S.f6e (x r) (h:S.a3d x=some r):∃k,P.f1g k x=some r:=by
 obtain⟨n,u⟩:=x;unfold S.a3d at h;dsimp only at h;split at h
 case isFalse=>cases h
 rename_i hc;cases h;refine⟨0,?_⟩;unfold P.f1g;dsimp only;have hf:Int.fdiv n 4294967296=n/4294967296:=Int.fdiv_eq_ediv_of_nonneg _ (by omega);rw[hf,b9p n hc.1,b9p _ (by omega)];have hd:dig B32 [n%4294967296,n/4294967296%4294967296]=true:=by
  rw[a2k,a2k];refine⟨⟨by omega,?_⟩,⟨by omega,?_⟩,rfl⟩
  ·show _<(4294967296:Int);omega
  ·show _<(4294967296:Int);omega
 rw[g0n _ hd (by simp),Option.bind_some];have:a0c B32 [n%4294967296,n/4294967296%4294967296]=n.toNat:=by
  simp only[a0c];show(n%4294967296).toNat+4294967296*((n/4294967296%4294967296).toNat+4294967296*0)=n.toNat;omega
 rw[this]
def P.f1h (k:Nat) (x:Int×Unit):Option (RB×Unit):=
 (S.b5g (x.1,())).bind fun y0=>(S.a3d (y0.1,())).bind fun y1=>(S.a3d (1,())).bind fun y2=>some ((decide (x.1<0),y1.1,y2.1),())
def S.a4q (x:(Int×Unit)):(Option (RB×Unit)):=if -9223372036854775808<=x.1/\x.1<=9223372036854775807 then some (rp B32 (f9h x.1),())else none
theorem S.f6f (x r) (h:S.a4q x=some r):∃k,P.f1h k x=some r:=by
 obtain⟨n,u⟩:=x;unfold S.a4q at h;dsimp only at h;split at h
 case isFalse=>cases h
 rename_i hc;cases h;refine⟨0,?_⟩;unfold P.f1h S.b5g S.a3d;dsimp only;rw[if_pos hc,Option.bind_some];dsimp only;rw[if_pos ⟨by omega,by omega⟩,Option.bind_some,Int.toNat_natCast,if_pos ⟨by decide,by decide⟩,Option.bind_some];rfl
abbrev P.b5z (x1:Int×List Int×List Int×Unit) (g2:Int×List Int×List Int×Unit->Option (Int×Unit)):Option (Int×Unit):=
 (fun(a:Int) (b c:List Int)=>if decide (a>=0)then if decide (0<=a)then if decide (a<(b.length:Int))then if decide (0<=a)then if decide (a<(c.length:Int))then if(b.getD a.toNat 0) != (c.getD a.toNat 0)then if decide (0<=a)then if decide (a<(b.length:Int))then if decide (0<=a)then if decide (a<(c.length:Int))then if decide ((b.getD a.toNat 0)<(c.getD a.toNat 0))then some ((-1:Int),())else some (1,())else none else none else none else none else g2 (wrap .i64 (a - 1),b,c,())else none else none else none else none else some (0,())) x1.1 x1.2.1 x1.2.2.1
def P.d3r (k:Nat) (x:List Int×List Int×Unit):Option (Int×Unit):=
 if(x.1.length:Int) != (x.2.1.length:Int)then if decide ((x.1.length:Int)<(x.2.1.length:Int))then some ((-1:Int),())else some (1,())else loopP P.b5z k (wrap .i64 ((x.1.length:Int) - 1),x.1,x.2.1,())
def S.a1k (x:((List Int)×((List Int)×Unit))):(Option (Int×Unit)):=if a2r B32 x.1=true/\a2r B32 x.2.1=true/\x.1.length<=1000000000000 then some (b1d (a0c B32 x.1) (a0c B32 x.2.1),())else none
theorem S.e6t (x r) (h:S.a1k x=some r):∃k,P.d3r k x=some r:=by
 obtain⟨xs,ys,u⟩:=x;unfold S.a1k at h;dsimp only at h;split at h
 case isFalse=>cases h
 rename_i hc;obtain⟨cx,cy,hl⟩:=hc;cases h;refine⟨xs.length+1,?_⟩;unfold P.d3r;dsimp only
 by_cases hn:xs.length=ys.length
 ·rw[if_neg (by simp [hn]),wr (by omega) (by omega)];have key:=a0f (k:=xs.length+1) (b:=P.b5z) (n:=xs.length) (st:=fun j=>((xs.length:Int) - 1 - (j:Int),xs,ys,())) (F:=fun j=>some (b1d (a0c B32 (xs.take (xs.length - j))) (a0c B32 (ys.take (xs.length - j))),())) (fun j g hj hg=>by
   unfold P.b5z;dsimp only at hg ⊢;have e1:(xs.length:Int) - 1 - (j:Int)>=0:=by omega
   have e3:(0:Int)<=(xs.length:Int) - 1 - (j:Int):=by omega
   have e4:(xs.length:Int) - 1 - (j:Int)<(xs.length:Int):=by omega
   have e4':(xs.length:Int) - 1 - (j:Int)<(ys.length:Int):=by omega
   simp only[e1,e4,e4',decide_true,if_true];have hi:xs.length - (j+1)<xs.length:=by omega
   have hi':xs.length - (j+1)<ys.length:=by omega
   have e5:(xs.length:Int) - 1 - (j:Int)=((xs.length - (j+1):Nat):Int):=by omega
   have e6:xs.length - j=(xs.length - (j+1))+1:=by omega
   rw[e5,a0n xs _ _ hi,a0n ys _ _ hi',e6];generalize xs.length - (j+1)=i at*
   by_cases hq:xs[i]=ys[i]
   ·rw[if_neg (by simp [hq]),wr (by omega) (by omega)];have e7:((i:Nat):Int) - 1=(xs.length:Int) - 1 - ((j+1:Nat):Int):=by omega
    rw[e7,hg,<-List.take_append_getElem hi,<-List.take_append_getElem hi',a0y,a0y,hq];have hlx:(xs.take i).length=i:=by simp;omega
    have hly:(ys.take i).length=i:=by simp;omega
    rw[hlx,hly];unfold b1d;simp only[Nat.add_lt_add_iff_right]
   ·rw[if_pos (by simp [hq])]
    by_cases hlt:xs[i]<ys[i]
    ·have:=c9s xs ys i hi hi' (a1q cx) (a1q cy) hlt;rw[if_pos (decide_eq_true hlt),b1d,if_pos this]
    ·have:=c9s ys xs i hi' hi (a1q cy) (a1q cx) (by omega);rw[if_neg (by simpa using hlt),b1d,if_neg (by omega),if_pos this]) (fun g=>by
   unfold P.b5z;dsimp only;rw[if_neg (by simp;omega),Nat.sub_self,List.take_zero,List.take_zero];rfl) (by omega)
  rw[show(xs.length:Int) - 1 - ((0:Nat):Int)=(xs.length:Int) - 1 by omega,Nat.sub_zero,List.take_length,List.take_of_length_le (by omega)]at key;exact key
 ·rw[if_pos (by simp;omega)]
  by_cases hlt:xs.length<ys.length
  ·rw[if_pos (decide_eq_true (by omega)),b1d,if_pos (b1e a0e cx cy hlt)]
  ·have:=b1e a0e cy cx (by omega);rw[if_neg (by simp;omega),b1d,if_neg (by omega),if_pos this]
abbrev i_nat_mul.A:=Int×Int×List Int×Int×Int×List Int×Int×List Int×Int×Int×List Int×Unit
abbrev i_nat_mul.B:=Int×Int×List Int×List Int×List Int×Unit
abbrev i_nat_mul.C:=Option (List Int×Unit)
abbrev P.b2v (g2:i_nat_mul.B->i_nat_mul.C) (x4:i_nat_mul.A) (g5:i_nat_mul.A->i_nat_mul.C):i_nat_mul.C:=
 (fun(a b d e h j l:Int) (c f i m:List Int)=>if decide (a<b)then if decide (0<=a)then if decide (a<(c.length:Int))then if decide (0<=(wrap .i64 (h+a)))then if decide ((wrap .i64 (h+a))<(f.length:Int))then if decide (0<=(wrap .i64 (h+a)))then if decide ((wrap .i64 (h+a))<(f.length:Int))then g5 (wrap .i64 (a+1),b,c,Int.fdiv (wrap .u64 (d+(wrap .u64 ((wrap .u64 ((wrap .u64 e)*(wrap .u64 (c.getD a.toNat 0))))+(wrap .u64 (f.getD (0+(Int.toNat (wrap .i64 (h+a)))) 0)))))) 4294967296,e,f.set (0+(Int.toNat (wrap .i64 (h+a)))) (wrap .u32 (wrap .u64 (d+(wrap .u64 ((wrap .u64 ((wrap .u64 e)*(wrap .u64 (c.getD a.toNat 0))))+(wrap .u64 (f.getD (0+(Int.toNat (wrap .i64 (h+a)))) 0))))))),h,i,j,l,m,())else none else none else none else none else none else none else if decide (0<=(wrap .i64 (h+(i.length:Int))))then if decide ((wrap .i64 (h+(i.length:Int)))<(f.length:Int))then g2 (wrap .i64 (j+1),l,m,i,f.set (0+(Int.toNat (wrap .i64 (h+(i.length:Int))))) (wrap .u32 d),())else none else none) x4.1 x4.2.1 x4.2.2.2.1 x4.2.2.2.2.1 x4.2.2.2.2.2.2.1 x4.2.2.2.2.2.2.2.2.1 x4.2.2.2.2.2.2.2.2.2.1 x4.2.2.1 x4.2.2.2.2.2.1 x4.2.2.2.2.2.2.2.1 x4.2.2.2.2.2.2.2.2.2.2.1
abbrev P.b6a (k:Nat) (x1:i_nat_mul.B) (g2:i_nat_mul.B->i_nat_mul.C):i_nat_mul.C:=
 if decide (x1.1<x1.2.1)then if decide (0<=x1.1)then if decide (x1.1<(x1.2.2.1.length:Int))then loopP (P.b2v g2) k (0,(x1.2.2.2.1.length:Int),x1.2.2.2.1,0,x1.2.2.1.getD x1.1.toNat 0,x1.2.2.2.2.1,x1.1,x1.2.2.2.1,x1.1,x1.2.1,x1.2.2.1,())else none else none else(S.a3u (x1.2.2.2.2.1,())).bind fun y6=>some (y6.1,())
def P.d3s (k:Nat) (x:List Int×List Int×Unit):i_nat_mul.C:=
 if decide (0<=(wrap .i64 ((x.1.length:Int)+(x.2.1.length:Int))))then if decide ((wrap .i64 ((x.1.length:Int)+(x.2.1.length:Int)))<=(wrap .i64 ((x.1.length:Int)+(x.2.1.length:Int))))then if decide (((wrap .i64 ((x.1.length:Int)+(x.2.1.length:Int)))*4)<=281474976710656)then loopP (P.b6a k) k (0,(x.1.length:Int),x.1,x.2.1,List.replicate (Int.toNat (wrap .i64 ((x.1.length:Int)+(x.2.1.length:Int)))) 0,())else none else none else none
theorem g5n (g:(Int×(Int×((List Int)×((List Int)×((List Int)×Unit)))))->(Option ((List Int)×Unit))) (F:Option ((List Int)×Unit)) {xs ys:List Int} (hx:dig B32 xs=true) (hy:dig B32 ys=true) (hlx:xs.length<=10000000000) (hly:ys.length<=10000000000) {i:Nat} (hi:i<xs.length) (K:Nat) (hK:ys.length<K)
  (hg:g (((i+1:Nat):Int),((xs.length:Int),(xs,(ys,(fd B32 (xs.length+ys.length) (a0c B32 (xs.take (i+1))*a0c B32 ys),())))))=F):
  loopP (P.b2v g) K ((0:Int),((ys.length:Int),(ys,((0:Int),(xs.getD i 0,(fd B32 (xs.length+ys.length) (a0c B32 (xs.take i)*a0c B32 ys),((i:Int),(ys,((i:Int),((xs.length:Int),(xs,())))))))))))=F:=by
 have hA:=b6v a0e hx hy i (by omega);have hA':=b6v a0e hx hy (i+1) (by omega);have gx:=a1b (B:=B32) (by decide) hx i;have gx1:xs.getD i 0<4294967296:=gx.2;have gx0:=gx.1;rw[a2l,Nat.add_mul,Nat.mul_assoc]at hg hA';generalize a0c B32 (xs.take i)*a0c B32 ys=A at*;obtain⟨x,hxe⟩:∃x:Nat,xs.getD i 0=(x:Int):=⟨(xs.getD i 0).toNat,by omega⟩
 rw[hxe,Int.toNat_natCast]at hg hA';rw[hxe]at gx1 ⊢;have hxB:x<B32:=by show x<4294967296;omega
 have hsh:=e4j a0e hi hA;rw[hsh];have hlw:(fd B32 ys.length (A/B32^i)).length=ys.length:=a3c _ _ _;have hdw:dig B32 (fd B32 ys.length (A/B32^i))=true:=b5u (by decide) _ _;have hvw:a0c B32 (fd B32 ys.length (A/B32^i))=A/B32^i:=by
  rw[b7y,Nat.mod_eq_of_lt];rw[Nat.div_lt_iff_lt_mul (Nat.pow_pos (by decide)),<-Nat.pow_add,Nat.add_comm];exact hA
 have hnext:=f2u a0e (la:=xs.length) (lb:=ys.length) (R:=x*a0c B32 ys) hi hA';generalize hR:List.replicate (xs.length - 1 - i) (0:Int)=R at*;have hRl:R.length=xs.length - 1 - i:=by rw[<-hR,List.length_replicate]
 generalize hW:fd B32 ys.length (A/B32^i)=W at*;have hl0:(fd B32 i A).length=i:=a3c _ _ _;have key:=a0f (k:=K) (b:=P.b2v g) (n:=ys.length) (st:=fun k=>((k:Int),(ys.length:Int),ys,((b9b B32 x W ys k).2:Int),(x:Int),(fd B32 i A++(b9b B32 x W ys k).1)++(W.drop k++(0:Int)::R),(i:Int),ys,(i:Int),(xs.length:Int),xs,())) (F:=fun k=>F) (fun k g' hk hg'=>by
  unfold P.b2v;dsimp only at hg' ⊢;refine Eq.trans ?_ hg';clear hg';obtain⟨q1,q2,q3,q4⟩:=d9s (x:=x) a0e hxB hdw hy k;have q4':(b9b B32 x W ys k).2<4294967296:=q4;have gy:=a1b (B:=B32) (by decide) hy k;have gw:=a1b (B:=B32) (by decide) hdw k;have gy1:ys.getD k 0<4294967296:=gy.2;have gw1:W.getD k 0<4294967296:=gw.2;have gy0:=gy.1;have gw0:=gw.1;have hAl:(fd B32 i A++(b9b B32 x W ys k).1).length=i+k:=by rw[List.length_append,hl0,q2]
  have hlen:((fd B32 i A++(b9b B32 x W ys k).1)++(W.drop k++(0:Int)::R)).length=xs.length+ys.length:=by
   rw[List.length_append,hAl,List.length_append,List.length_drop,List.length_cons,hlw,hRl];omega
  have e1:(k:Int)<(ys.length:Int):=by omega
  have e2:(0:Int)<=(k:Int):=by omega
  have e3:(0:Int)<=((i+k:Nat):Int):=by omega
  have e4:((i+k:Nat):Int)<((xs.length+ys.length:Nat):Int):=by omega
  rw[hlen,<-Int.natCast_add i k,wr (x:=((i+k:Nat):Int)) (by omega) (by omega)];simp only[e1,e2,e3,e4,decide_true,if_true,Nat.zero_add,Int.toNat_natCast];rw[a2w (xs:=W) (i:=k) (by omega),List.cons_append,b1g hAl];simp only[b3e hAl];rw[b9b];dsimp only;generalize W.getD k 0=w at*;generalize ys.getD k 0=y at*;generalize b9b B32 x W ys k=p at*;obtain⟨pl,c0⟩:=p;dsimp only at*;obtain⟨Y,rfl⟩:∃Y:Nat,y=(Y:Int):=⟨y.toNat,by omega⟩
  obtain⟨w',rfl⟩:∃Y:Nat,w=(Y:Int):=⟨w.toNat,by omega⟩
  rw[Int.toNat_natCast,Int.toNat_natCast];have hxY:x*Y<=4294967295*4294967295:=Nat.mul_le_mul (by omega) (by omega);rw[wu (x:=(x:Int)) (by omega) (by omega),wu (x:=(Y:Int)) (by omega) (by omega),<-Int.natCast_mul,wu (x:=((x*Y:Nat):Int)) (by omega) (by omega),wu (x:=(w':Int)) (by omega) (by omega),<-Int.natCast_add,wu (x:=((x*Y+w':Nat):Int)) (by omega) (by omega),<-Int.natCast_add,wu (x:=((c0+(x*Y+w'):Nat):Int)) (by omega) (by omega),Int.fdiv_eq_ediv_of_nonneg _ (by omega),c3u,wr (x:=(k:Int)+1) (by omega) (by omega)];have e8:((c0+(x*Y+w'):Nat):Int)%4294967296=(((c0+(x*Y+w'))%B32:Nat):Int):=by
   show _=(((c0+(x*Y+w'))%4294967296:Nat):Int)
   omega
  have e9:((c0+(x*Y+w'):Nat):Int)/4294967296=(((c0+(x*Y+w'))/B32:Nat):Int):=by
   show _=(((c0+(x*Y+w'))/4294967296:Nat):Int)
   omega
  rw[e8,e9,<-List.append_assoc (fd B32 i A)];rfl) (fun g'=>by
  unfold P.b2v;dsimp only;obtain⟨q1,q2,q3,q4⟩:=d9s (x:=x) a0e hxB hdw hy ys.length;have q4':(b9b B32 x W ys ys.length).2<4294967296:=q4;rw[List.take_length,<-hlw,List.take_length,hlw,hvw]at q3;have hAl:(fd B32 i A++(b9b B32 x W ys ys.length).1).length=i+ys.length:=by rw[List.length_append,hl0,q2]
  have hlen:((fd B32 i A++(b9b B32 x W ys ys.length).1)++(W.drop ys.length++(0:Int)::R)).length=xs.length+ys.length:=by
   rw[List.length_append,hAl,List.length_append,List.length_drop,List.length_cons,hlw,hRl];omega
  have e1:¬((ys.length:Int)<(ys.length:Int)):=by omega
  have e3:(0:Int)<=((i+ys.length:Nat):Int):=by omega
  have e4:((i+ys.length:Nat):Int)<((xs.length+ys.length:Nat):Int):=by omega
  rw[hlen,<-Int.natCast_add i ys.length,wr (x:=((i+ys.length:Nat):Int)) (by omega) (by omega)];simp only[e1,e3,e4,decide_true,decide_false,if_true,if_false,Bool.false_eq_true,Nat.zero_add,Int.toNat_natCast];rw[List.drop_of_length_le (by omega),List.nil_append,b3e hAl,w32 (by omega) (by omega),wr (x:=(i:Int)+1) (by omega) (by omega)];generalize b9b B32 x W ys ys.length=p at*;obtain⟨pl,c0⟩:=p;dsimp only at*;have hlt:=a1n q1;rw[q2]at hlt;have hpl:pl=fd B32 ys.length (A/B32^i+x*a0c B32 ys):=by
   have:=f4v a0e q1 q2 rfl;rw[this,<-q3,<-c1t B32 ys.length (_+_),Nat.add_mul_mod_self_left,c1t]
  have hc0:c0=(A/B32^i+x*a0c B32 ys)/B32^ys.length:=by
   rw[<-q3,Nat.add_mul_div_left _ _ (Nat.pow_pos (by decide)),Nat.div_eq_of_lt hlt,Nat.zero_add]
  rw[List.append_assoc _ [_],List.singleton_append,hpl,hc0,hnext];exact hg) hK
 rw[show(fd B32 i A++(b9b B32 x W ys 0).1)++(W.drop 0++(0:Int)::R)=(fd B32 i A++W)++(0:Int)::R by rw[show(b9b B32 x W ys 0).1=[]from rfl,List.append_nil,List.drop_zero,List.append_assoc]]at key;exact key
def S.a2s (x:((List Int)×((List Int)×Unit))):(Option ((List Int)×Unit)):=if dig B32 x.1=true/\dig B32 x.2.1=true/\x.1.length<=10000000000/\x.2.1.length<=10000000000 then some (nd B32 (a0c B32 x.1*a0c B32 x.2.1),())else none
theorem S.e6u (x r) (h:S.a2s x=some r):∃k,P.d3s k x=some r:=by
 obtain⟨xs,ys,u⟩:=x;unfold S.a2s at h;dsimp only at h;split at h
 case isFalse=>cases h
 rename_i hc;obtain⟨dx,dy,lx,ly⟩:=hc;cases h;refine⟨xs.length+ys.length+1,?_⟩;unfold P.d3s;dsimp only;have a1:(0:Int)<=((xs.length+ys.length:Nat):Int):=by omega
 have a2:((xs.length+ys.length:Nat):Int)*4<=281474976710656:=by omega
 rw[<-Int.natCast_add,wr (x:=((xs.length+ys.length:Nat):Int)) (by omega) (by omega)];simp only[a1,a2,decide_true,if_true,Int.le_refl,Int.toNat_natCast];have key:=a0f (k:=xs.length+ys.length+1) (b:=P.b6a (xs.length+ys.length+1)) (n:=xs.length) (st:=fun i=>((i:Int),(xs.length:Int),xs,ys,fd B32 (xs.length+ys.length) (a0c B32 (xs.take i)*a0c B32 ys),())) (F:=fun i=>some (nd B32 (a0c B32 xs*a0c B32 ys),())) (fun i g hi hg=>by
  unfold P.b6a;dsimp only at hg ⊢;have e1:(i:Int)<(xs.length:Int):=by omega
  have e2:(0:Int)<=(i:Int):=by omega
  simp only[e1,e2,decide_true,if_true,Int.toNat_natCast];exact g5n g _ dx dy lx ly hi _ (by omega) hg) (fun g=>by
  unfold P.b6a;dsimp only;rw[if_neg (by simp),List.take_length];unfold S.a3u;dsimp only;have hb:=b6v a0e dx dy xs.length (Nat.le_refl _);rw[List.take_length]at hb;rw[if_pos ⟨b5u (by decide) _ _,by rw[a3c];omega⟩,Option.bind_some,f4u a0e hb]) (by omega)
 rw[List.take_zero,show a0c B32 []*a0c B32 ys=0 by simp [a0c],e9k]at key;exact key
def P.c7h (k:Nat) (x:RB×Unit):Option (Int×Unit):=
 if(x.1.2.1.length:Int)==0 then some (0,())else if x.1.1 then some ((-1:Int),())else some (1,())
def S.a0u (x:(RB×Unit)):(Option (Int×Unit)):=if a2r B32 x.1.2.1=true then some (d7n x.1.1 (a0c B32 x.1.2.1),())else none
theorem S.e1n (x r) (h:S.a0u x=some r):∃k,P.c7h k x=some r:=by
 obtain⟨⟨n,as,bs⟩,u⟩:=x;unfold S.a0u at h;dsimp only at h;split at h
 case isFalse=>cases h
 rename_i ca;cases h;refine⟨0,?_⟩;unfold P.c7h d7n;dsimp only;have h:=a9t a0e ca
 by_cases h0:as=[]
 ·rw[if_pos (h.1 h0),h0,if_pos (by rfl)]
 ·rw[if_neg (fun q=>h0 (h.2 q)),if_neg (by simpa using h0)];cases n<;>rfl
def P.c4u (k:Nat) (x:RB×RB×Unit):Option (Int×Unit):=
 (S.a0u ((x.1.1,x.1.2.1,x.1.2.2),())).bind fun y0=>(S.a0u ((x.2.1.1,x.2.1.2.1,x.2.1.2.2),())).bind fun y1=>if y0.1 != y1.1 then(S.a0u ((x.1.1,x.1.2.1,x.1.2.2),())).bind fun y2=>(S.a0u ((x.2.1.1,x.2.1.2.1,x.2.1.2.2),())).bind fun y3=>some (wrap .i64 (y2.1 - y3.1),())else(S.a2s (x.1.2.1,x.2.1.2.2,())).bind fun y4=>(S.a2s (x.2.1.2.1,x.1.2.2,())).bind fun y5=>(S.a1k (y4.1,y5.1,())).bind fun y6=>if x.1.1 then some (wrap .i64 (0 - y6.1),())else some (y6.1,())
def S.c4v (x:(RB×(RB×Unit))):(Option (Int×Unit)):=P.c4u 0 x
theorem S.e6v (x r) (h:S.c4v x=some r):∃k,P.c4u k x=some r:=⟨0,h⟩
def P.c3a (k:Nat) (x:RB×Unit):Option (Bool×Unit):=
 (S.a4q (1,())).bind fun y0=>(S.c4v ((x.1.1,x.1.2.1,x.1.2.2),(y0.1.1,y0.1.2.1,y0.1.2.2),())).bind fun y1=>some (y1.1==0,())
def S.a8o (x:(RB×Unit)):(Option (Bool×Unit)):=if rok B32 40000000 x.1=true/\qok (rv B32 x.1)=true then some (c4e (rv B32 x.1),())else none
theorem S.d6n (x r) (h:S.a8o x=some r):∃k,P.c3a k x=some r:=by
 obtain⟨x,u⟩:=x;unfold S.a8o at h;dsimp only at h;split at h
 case isFalse=>cases h
 rename_i hc;obtain⟨hr,hq⟩:=hc;obtain⟨n,p,q,rfl,l1,l2⟩:=b2p hr;rw[b9v a0e]at h hq;rw[d1l]at hq;obtain⟨h0,h1⟩:=hq;dsimp only at h0 h1;cases h;refine⟨0,?_⟩;have hw:S.a4q (1,())=some ((false,(nd B32 1,nd B32 1)),()):=by rfl
 unfold P.c3a c4e;dsimp only;rw[hw,Option.bind_some];dsimp only;unfold S.c4v P.c4u;dsimp only;have hs:∀(n:Bool) (p:Nat) (ys:List Int),S.a0u ((n,(nd B32 p,ys)),())=some (d7n n p,()):=by
  intro n p ys;unfold S.a0u;dsimp only;rw[if_pos (a0m a0e _),a0i a0e]
 have o1:(nd B32 1).length<=40000000:=by rw[e4k a0e];decide
 have em:∀p q,(nd B32 p).length<=40000000->(nd B32 q).length<=40000000->S.a2s (nd B32 p,(nd B32 q,()))=some (nd B32 (p*q),()):=by
  intro p q hp hq;unfold S.a2s;dsimp only;rw[if_pos ⟨a3z a0e _,a3z a0e _,by omega,by omega⟩,a0i a0e,a0i a0e]
 have ec:S.a1k (nd B32 (p*1),(nd B32 (1*q),()))=some (b1d (p*1) (1*q),()):=by
  unfold S.a1k;dsimp only;rw[if_pos ⟨a0m a0e _,a0m a0e _,by rw[Nat.mul_one];omega⟩,a0i a0e,a0i a0e]
 rw[hs,Option.bind_some,hs,Option.bind_some];dsimp only;have s1:d7n false 1=1:=rfl;rw[s1]
 by_cases hp:p=0
 ·subst hp;rw[decide_eq_false (fun z=>by have:=z.2;omega)];rfl
 ·cases n
  ·have s2:d7n false p=1:=by
    unfold d7n;rw[if_neg hp];rfl
   rw[s2,if_neg (by decide),em _ _ l1 o1,Option.bind_some,em _ _ o1 l2,Option.bind_some];dsimp only;rw[ec,Option.bind_some];dsimp only;rw[if_neg (by decide),Option.bind_some];have hz:=a4v (a:=p*1) (b:=1*q);rw[Nat.mul_one,Nat.one_mul]at hz ⊢
   by_cases he:p=q
   ·rw[decide_eq_true ⟨rfl,he⟩,hz.2 he];rfl
   ·rw[decide_eq_false (fun z=>he z.2)];dsimp only;rw[beq_eq_false_iff_ne.2 (fun z=>he (hz.1 z))]
  ·have s2:d7n true p= -1:=by
    unfold d7n;rw[if_neg hp];rfl
   rw[s2,decide_eq_false (fun z=>by cases z.1)];rfl
def S.b5h (x:(ByteArray×(ByteArray×Unit))):(Option ((ByteArray×(ByteArray×Bool))×Unit)):=if x.1.size<4294967281 then some ((⟨(Go.Lib.cut x.1.data.toList x.2.1.data.toList).1.toArray⟩,(⟨(Go.Lib.cut x.1.data.toList x.2.1.data.toList).2.1.toArray⟩,(Go.Lib.cut x.1.data.toList x.2.1.data.toList).2.2)),())else none
def S.a7e (x:(ByteArray×(ByteArray×Unit))):(Option ((ByteArray×Bool)×Unit)):=some ((⟨(Go.Lib.trimPrefix x.1.data.toList x.2.1.data.toList).toArray⟩,Go.Lib.hasPrefix x.1.data.toList x.2.1.data.toList),())
abbrev P.a7v (x1:Int×List Int×Int×Unit) (g2:Int×List Int×Int×Unit->Option ((Int×Bool)×Unit)):Option ((Int×Bool)×Unit):=
 if decide (x1.1>=0)then if decide ((x1.2.1.length:Int)<=2)then if decide (0<=x1.1)then if decide (x1.1<(x1.2.1.length:Int))then g2 (wrap .i64 (x1.1 - 1),x1.2.1,wrap .u64 ((wrap .u64 (x1.2.2.1*4294967296))+(wrap .u64 (x1.2.1.getD x1.1.toNat 0))),())else none else none else some ((x1.2.2.1,decide ((x1.2.1.length:Int)<=2)),())else some ((x1.2.2.1,decide ((x1.2.1.length:Int)<=2)),())
def P.b8q (k:Nat) (x:List Int×Unit):Option ((Int×Bool)×Unit):=
 loopP P.a7v k (wrap .i64 ((x.1.length:Int) - 1),x.1,0,())
def S.a5k (x:((List Int)×Unit)):(Option ((Int×Bool)×Unit)):=if dig B32 x.1=true/\x.1.length<=1000000000000 then some ((if x.1.length<=2 then((a0c B32 x.1:Nat):Int)else 0,decide (x.1.length<=2)),())else none
theorem S.d6o (x r) (h:S.a5k x=some r):∃k,P.b8q k x=some r:=by
 obtain⟨xs,u⟩:=x;unfold S.a5k at h;dsimp only at h;split at h
 case isFalse=>cases h
 rename_i hc;obtain⟨hd,hl⟩:=hc;cases h
 by_cases h2:xs.length<=2
 ·refine⟨xs.length+1,?_⟩;unfold P.b8q;dsimp only;rw[if_pos h2,decide_eq_true h2,wr (by omega) (by omega)];have key:=a0f (k:=xs.length+1) (b:=P.a7v) (n:=xs.length) (st:=fun j=>((xs.length:Int) - 1 - (j:Int),xs,((a0c B32 (xs.drop (xs.length - j)):Nat):Int),())) (F:=fun j=>some ((((a0c B32 xs:Nat):Int),true),())) (fun j g hj hg=>by
   unfold P.a7v;dsimp only at hg ⊢;have e1:(xs.length:Int) - 1 - (j:Int)>=0:=by omega
   have e2:(xs.length:Int)<=2:=by omega
   have e3:(0:Int)<=(xs.length:Int) - 1 - (j:Int):=by omega
   have e4:(xs.length:Int) - 1 - (j:Int)<(xs.length:Int):=by omega
   simp only[e1,e2,e4,decide_true,if_true];have hi:xs.length - (j+1)<xs.length:=by omega
   have e5:(xs.length:Int) - 1 - (j:Int)=((xs.length - (j+1):Nat):Int):=by omega
   rw[e5,a0n xs _ _ hi];have e6:xs.drop (xs.length - (j+1))=xs[xs.length - (j+1)]::xs.drop (xs.length - j):=by
    rw[List.drop_eq_getElem_cons hi];congr 2;omega
   have hx:=b6i hd hi;have hv:a0c B32 (xs.drop (xs.length - j))<B32^1:=by
    have hdd:dig B32 (xs.drop (xs.length - j))=true:=by
     have:=List.take_append_drop (xs.length - j) xs;rw[<-this,a1m,Bool.and_eq_true]at hd;exact hd.2
    have:=a1n hdd;have hp:B32^(xs.drop (xs.length - j)).length<=B32^1:=Nat.pow_le_pow_right (by decide) (by simp;omega);omega
   have hv':a0c B32 (xs.drop (xs.length - j))<4294967296:=hv;have hx':xs[xs.length - (j+1)]<4294967296:=hx.2;rw[e6]at hg;rw[<-hg,wr (by omega) (by omega),wu (x:=(a0c B32 (xs.drop (xs.length - j)):Int)*4294967296) (by omega) (by omega),wu (x:=xs[xs.length - (j+1)]) (by omega) (by omega),wu (by omega) (by omega)];congr 1;simp only[Prod.mk.injEq,a0c];refine⟨by omega,trivial,?_,trivial⟩;show _=(((xs[xs.length - (j+1)]).toNat+4294967296*a0c B32 (xs.drop (xs.length - j)):Nat):Int)
   omega) (fun g=>by
   unfold P.a7v;dsimp only;rw[if_neg (by simp;omega),Nat.sub_self,List.drop_zero,decide_eq_true (by omega)]) (by omega)
  have e0:a0c B32 (xs.drop (xs.length - 0))=0:=by rw[Nat.sub_zero,List.drop_length];rfl
  rw[show(xs.length:Int) - 1 - ((0:Nat):Int)=(xs.length:Int) - 1 by omega,e0]at key;exact key
 ·refine⟨1,?_⟩;unfold P.b8q;rw[a0j];unfold P.a7v;dsimp only;rw[wr (by omega) (by omega),if_pos (decide_eq_true (by omega)),if_neg (by simp;omega),if_neg h2,decide_eq_false h2,decide_eq_false (by omega)]
def S.a3h (x:(Int×Unit)):(Option (Int×Unit)):=if 0<=x.1/\x.1<=4294967295 then some (32 - (Go.Lib.bitLen x.1.toNat:Int),())else none
abbrev P.a7f (x1:Int×Int×List Int×List Int×Int×Unit) (g2:Int×Int×List Int×List Int×Int×Unit->Option ((List Int×Int)×Unit)):Option ((List Int×Int)×Unit):=
 (fun(a b e:Int) (c d:List Int)=>if decide (a>=0)then if decide (0<=a)then if decide (a<(c.length:Int))then if decide ((wrap .u64 e)=0)then none else if decide (0<=a)then if decide (a<(d.length:Int))then if decide ((wrap .u64 e)=0)then none else g2 (wrap .i64 (a - 1),Int.tmod (wrap .u64 ((wrap .u64 (b*4294967296))+(wrap .u64 (c.getD a.toNat 0)))) (wrap .u64 e),c,d.set (0+a.toNat) (wrap .u32 (wrap .u64 (Int.tdiv (wrap .u64 ((wrap .u64 (b*4294967296))+(wrap .u64 (c.getD a.toNat 0)))) (wrap .u64 e)))),e,())else none else none else none else none else(S.a3u (d,())).bind fun y3=>some ((y3.1,wrap .u32 b),())) x1.1 x1.2.1 x1.2.2.2.2.1 x1.2.2.1 x1.2.2.2.1
def P.b6l (k:Nat) (x:List Int×Int×Unit):Option ((List Int×Int)×Unit):=
 if decide (0<=(x.1.length:Int))then if decide ((x.1.length:Int)<=(x.1.length:Int))then if decide (((x.1.length:Int)*4)<=281474976710656)then loopP P.a7f k (wrap .i64 ((x.1.length:Int) - 1),0,x.1,List.replicate (Int.toNat (x.1.length:Int)) 0,x.2.1,())else none else none else none
def S.a2y (x:((List Int)×(Int×Unit))):(Option (((List Int)×Int)×Unit)):=if dig B32 x.1=true/\0<x.2.1/\x.2.1<4294967296/\x.1.length<=1000000000000 then some ((nd B32 (a0c B32 x.1/x.2.1.toNat),((a0c B32 x.1%x.2.1.toNat:Nat):Int)),())else none
theorem S.c7i (x r) (h:S.a2y x=some r):∃k,P.b6l k x=some r:=by
 obtain⟨xs,b,u⟩:=x;unfold S.a2y at h;dsimp only at h;split at h
 case isFalse=>cases h
 rename_i hc;obtain⟨hd,hb0,hb1,hl⟩:=hc;cases h;refine⟨xs.length+1,?_⟩;unfold P.b6l;dsimp only;have a1:(0:Int)<=(xs.length:Int):=by omega
 have a2:(xs.length:Int)<=(xs.length:Int):=by omega
 have a3:(xs.length:Int)*4<=281474976710656:=by omega
 simp only[a1,a2,a3,decide_true,if_true];rw[wr (by omega) (by omega),Int.toNat_natCast];have hdr:∀m,dig B32 (xs.drop m)=true:=by
  intro m;have:=List.take_append_drop m xs;have hd':=hd;rw[<-this,a1m,Bool.and_eq_true]at hd';exact hd'.2
 have hbN:0<b.toNat:=by omega
 have key:=a0f (k:=xs.length+1) (b:=P.a7f) (n:=xs.length) (st:=fun j=>((xs.length:Int) - 1 - (j:Int),((c9t B32 b.toNat (xs.drop (xs.length - j))).2:Int),xs,List.replicate (xs.length - j) (0:Int)++(c9t B32 b.toNat (xs.drop (xs.length - j))).1,b,())) (F:=fun j=>some ((nd B32 (a0c B32 xs/b.toNat),((a0c B32 xs%b.toNat:Nat):Int)),())) (fun j g hj hg=>by
  unfold P.a7f;dsimp only at hg ⊢;obtain⟨q1,q2,q3,q4⟩:=d9p B32 b.toNat hbN (xs.drop (xs.length - j)) (hdr _);have hi:xs.length - (j+1)<xs.length:=by omega
  have e5:(xs.length:Int) - 1 - (j:Int)=((xs.length - (j+1):Nat):Int):=by omega
  have e6:xs.drop (xs.length - (j+1))=xs[xs.length - (j+1)]::xs.drop (xs.length - j):=by
   rw[List.drop_eq_getElem_cons hi];congr 2;omega
  have e7:xs.length - j=(xs.length - (j+1))+1:=by omega
  have hlen:(List.replicate (xs.length - j) (0:Int)++(c9t B32 b.toNat (xs.drop (xs.length - j))).1).length=xs.length:=by
   rw[List.length_append,List.length_replicate,q2,List.length_drop];omega
  have hx:=b6i hd hi;have hx1:xs[xs.length - (j+1)]<4294967296:=hx.2;have hx0:=hx.1;have hm:(c9t B32 b.toNat (xs.drop (xs.length - j))).2<b.toNat:=by rw[q4];exact Nat.mod_lt _ hbN
  rw[e6]at hg;rw[hlen,e5,a0n xs _ _ hi];have a1:((xs.length - (j+1):Nat):Int)>=0:=by omega
  have a2:(0:Int)<=((xs.length - (j+1):Nat):Int):=by omega
  have a3:((xs.length - (j+1):Nat):Int)<(xs.length:Int):=by omega
  rw[wu (x:=b) (by omega) (by omega)];have a4:¬(b=0):=by omega
  simp only[a1,a3,a4,decide_true,decide_false,if_true,if_false,Bool.false_eq_true];generalize hR:(c9t B32 b.toNat (xs.drop (xs.length - j))).2=R at*;generalize hX:xs[xs.length - (j+1)]=X at*;have hRX:(R:Int)*4294967296+X<b*4294967296:=by omega
  rw[wu (x:=(R:Int)*4294967296) (by omega) (by omega),wu (x:=X) (by omega) (by omega),wu (x:=(R:Int)*4294967296+X) (by omega) (by omega)];have eT:Int.tdiv ((R:Int)*4294967296+X) b=(((R*B32+X.toNat)/b.toNat:Nat):Int):=by
   rw[Int.tdiv_eq_ediv_of_nonneg (by omega)];have:(R:Int)*4294967296+X=((R*4294967296+X.toNat:Nat):Int):=by omega
   rw[this];have hb:b=((b.toNat:Nat):Int):=by omega
   conv=>lhs;rw[hb]
   exact(Int.natCast_ediv _ _).symm
  have eM:Int.tmod ((R:Int)*4294967296+X) b=(((R*B32+X.toNat)%b.toNat:Nat):Int):=by
   rw[Int.tmod_eq_emod_of_nonneg (by omega)];have:(R:Int)*4294967296+X=((R*4294967296+X.toNat:Nat):Int):=by omega
   rw[this];have hb:b=((b.toNat:Nat):Int):=by omega
   conv=>lhs;rw[hb]
   exact(Int.natCast_emod _ _).symm
  have hQ:(R*B32+X.toNat)/b.toNat<B32:=(Nat.div_lt_iff_lt_mul hbN).2 (by
   show R*4294967296+X.toNat<4294967296*b.toNat;omega)
  have hQ':(R*B32+X.toNat)/b.toNat<4294967296:=hQ;have z0:(0:Int)<=(((R*B32+X.toNat)/b.toNat:Nat):Int):=Int.natCast_nonneg _;have z1:(((R*B32+X.toNat)/b.toNat:Nat):Int)<4294967296:=Int.ofNat_lt.2 hQ';rw[eT,eM,wu z0 (Int.lt_trans z1 (by decide)),w32 z0 z1,wr (x:=((xs.length - (j+1):Nat):Int) - 1) (by omega) (by omega),Nat.zero_add,Int.toNat_natCast];have hset:∀(Q:List Int) (v:Int),(List.replicate (xs.length - j) (0:Int)++Q).set (xs.length - (j+1)) v=List.replicate (xs.length - (j+1)) 0++v::Q:=by
   intro Q v;rw[e7];exact d9q _ _ _
  rw[hset,<-hg];congr 1;simp only[Prod.mk.injEq,c9t];rw[hR]
  and_intros<;>first|rfl|omega|trivial) (fun g=>by
  unfold P.a7f;dsimp only;obtain⟨q1,q2,q3,q4⟩:=d9p B32 b.toNat hbN xs hd;rw[if_neg (by simp;omega),Nat.sub_self,List.drop_zero,List.replicate_zero,List.nil_append,g0n _ q1 (by omega),Option.bind_some,q3,q4];have hm:=Nat.mod_lt (a0c B32 xs) hbN;rw[w32 (by omega) (by omega)]) (by omega)
 rw[show(xs.length:Int) - 1 - ((0:Nat):Int)=(xs.length:Int) - 1 by omega,Nat.sub_zero,List.drop_length]at key;simpa [c9t]using key
abbrev P.a8i (x1:Int×Int×List Int×Int×List Int×Unit) (g2:Int×Int×List Int×Int×List Int×Unit->Option (List Int×Unit)):Option (List Int×Unit):=
 (fun(a b d:Int) (c e:List Int)=>if decide (a<b)then if decide (0<=a)then if decide (a<(c.length:Int))then if decide (d<0)then none else if decide (0<=a)then if decide (a<(e.length:Int))then if decide (0<=a)then if decide (a<(e.length:Int))then if decide (0<=(wrap .i64 (a+1)))then if decide ((wrap .i64 (a+1))<(List.length (e.set (0+a.toNat) (wrap .u32 ((BitVec.toNat ((BitVec.ofInt 32 (e.getD (0+a.toNat) 0))|||(BitVec.ofInt 32 (wrap .u32 (wrap .u64 ((wrap .u64 (c.getD a.toNat 0))*((2:Int)^(Min.min d.toNat 64))))))):Nat):Int))):Int))then g2 (wrap .i64 (a+1),b,c,d,List.set (e.set (0+a.toNat) (wrap .u32 ((BitVec.toNat ((BitVec.ofInt 32 (e.getD (0+a.toNat) 0))|||(BitVec.ofInt 32 (wrap .u32 (wrap .u64 ((wrap .u64 (c.getD a.toNat 0))*((2:Int)^(Min.min d.toNat 64))))))):Nat):Int))) (0+(Int.toNat (wrap .i64 (a+1)))) (wrap .u32 (Int.fdiv (wrap .u64 ((wrap .u64 (c.getD a.toNat 0))*((2:Int)^(Min.min d.toNat 64)))) 4294967296)),())else none else none else none else none else none else none else none else none else some (e,())) x1.1 x1.2.1 x1.2.2.2.1 x1.2.2.1 x1.2.2.2.2.1
def P.b8r (k:Nat) (x:List Int×Int×Unit):Option (List Int×Unit):=
 if decide (0<=(wrap .i64 ((x.1.length:Int)+1)))then if decide ((wrap .i64 ((x.1.length:Int)+1))<=(wrap .i64 ((x.1.length:Int)+1)))then if decide (((wrap .i64 ((x.1.length:Int)+1))*4)<=281474976710656)then loopP P.a8i k (0,(x.1.length:Int),x.1,x.2.1,List.replicate (Int.toNat (wrap .i64 ((x.1.length:Int)+1))) 0,())else none else none else none
def S.a3r (x:((List Int)×(Int×Unit))):(Option ((List Int)×Unit)):=if dig B32 x.1=true/\0<=x.2.1/\x.2.1<=31/\x.1.length<=10000000000 then some (fd B32 (x.1.length+1) (a0c B32 x.1*2^x.2.1.toNat),())else none
theorem S.c9m (x r) (h:S.a3r x=some r):∃k,P.b8r k x=some r:=by
 obtain⟨xs,by',u⟩:=x;unfold S.a3r at h;dsimp only at h;split at h
 case isFalse=>cases h
 rename_i hc;obtain⟨hd,hb0,hb1,hl⟩:=hc;cases h;obtain⟨s,rfl⟩:∃d:Nat,by'=(d:Int):=⟨by'.toNat,by omega⟩
 rw[Int.toNat_natCast];have hs:s<=31:=by omega
 have hpow:0<2^s:=Nat.pow_pos (by decide);have hpow32:2^s<=2147483648:=Nat.le_trans (Nat.pow_le_pow_right (by decide) hs) (by decide);refine⟨xs.length+1,?_⟩;unfold P.b8r;dsimp only;rw[wr (by omega) (by omega)];have a1:(0:Int)<=(xs.length:Int)+1:=by omega
 have a3:((xs.length:Int)+1)*4<=281474976710656:=by omega
 rw[if_pos (decide_eq_true a1),if_pos (decide_eq_true (Int.le_refl _)),if_pos (decide_eq_true a3)];have e0:List.replicate ((xs.length:Int)+1).toNat (0:Int)=(b1f B32 (2^s) xs 0).1++(((b1f B32 (2^s) xs 0).2:Int)::List.replicate (xs.length - 0) 0):=by
  rw[show((xs.length:Int)+1).toNat=xs.length+1 by omega,List.replicate_succ];rfl
 rw[e0];have key:=a0f (k:=xs.length+1) (b:=P.a8i) (n:=xs.length) (st:=fun i=>((i:Int),(xs.length:Int),xs,(s:Int),(b1f B32 (2^s) xs i).1++(((b1f B32 (2^s) xs i).2:Int)::List.replicate (xs.length - i) 0),())) (F:=fun i=>some (fd B32 (xs.length+1) (a0c B32 xs*2^s),())) (fun i g hi hg=>by
  unfold P.a8i;dsimp only at hg ⊢;obtain⟨q1,q2,q3,q4⟩:=c9u (d:=2^s) a0e hd i (by omega);have hlen:((b1f B32 (2^s) xs i).1++(((b1f B32 (2^s) xs i).2:Int)::List.replicate (xs.length - i) 0)).length=xs.length+1:=by rw[List.length_append,q2,List.length_cons,List.length_replicate];omega
  have e1:(i:Int)<(xs.length:Int):=by omega
  have e2:(0:Int)<=(i:Int):=by omega
  have e3:(i:Int)<((xs.length+1:Nat):Int):=by omega
  have e4:¬((s:Int)<0):=by omega
  rw[hlen];simp only[e1,e2,e3,e4,decide_true,decide_false,if_true,Nat.zero_add,Int.toNat_natCast,List.length_set,hlen,Bool.false_eq_true,if_false];rw[wr (x:=(i:Int)+1) (by omega) (by omega)];have e5:(0:Int)<=(i:Int)+1:=by omega
  have e6:(i:Int)+1<((xs.length+1:Nat):Int):=by omega
  simp only[e5,e6,decide_true,if_true];have hgD:xs.getD i 0=xs[i]:=by simp [hi]
  have hx:=b6i hd hi;have hx1:xs[i]<4294967296:=hx.2;have hx0:=hx.1;rw[b1f,hgD]at hg;rw[hgD];have hcar:(b1f B32 (2^s) xs i).2<2^s:=by
   have h1:a0c B32 (xs.take i)<B32^i:=by
    have h0:dig B32 (xs.take i)=true:=by
     have:=List.take_append_drop i xs;rw[<-this,a1m,Bool.and_eq_true]at hd;exact hd.1
    have:=a1n h0;rwa [show(xs.take i).length=i by simp;omega]at this
   have h2:a0c B32 (xs.take i)*2^s<B32^i*2^s:=Nat.mul_lt_mul_of_pos_right h1 hpow;exact Nat.lt_of_mul_lt_mul_left (a:=B32^i) (by omega)
  generalize hP:b1f B32 (2^s) xs i=p at*;obtain⟨z,hz⟩:∃z:Nat,xs[i]=(z:Int):=⟨xs[i].toNat,(Int.toNat_of_nonneg hx0).symm⟩
  rw[hz]at hx1 hg ⊢;rw[Int.toNat_natCast]at hg;have hz32:z<2^32:=by omega
  have hzp:z*2^s<18446744073709551616:=Nat.lt_of_lt_of_le (Nat.mul_lt_mul_of_pos_right hz32 hpow) (by have:=Nat.mul_le_mul_left (2^32) hpow32;omega);have emin:Min.min s 64=s:=by omega
  have ep:((2:Int)^s)=((2^s:Nat):Int):=by rw[Int.natCast_pow];rfl
  have em:(z:Int)*((2^s:Nat):Int)=((z*2^s:Nat):Int):=(Int.natCast_mul _ _).symm;rw[wu (x:=(z:Int)) (by omega) (by omega),emin,ep,em,wu (x:=((z*2^s:Nat):Int)) (by omega) (by omega)];have g1:(p.1++((p.2:Int)::List.replicate (xs.length - i) 0)).getD i 0=(p.2:Int):=by
   rw[List.getD_eq_getElem?_getD,List.getElem?_append_right (by omega),q2,Nat.sub_self];rfl
  rw[g1,b9p ((z*2^s:Nat):Int) (by omega)];have e7:((z*2^s:Nat):Int)%4294967296=((z*2^s%2^32:Nat):Int):=by
   show _=((z*2^s%4294967296:Nat):Int)
   omega
  have hlow:=h0a z s (by omega);have hor:p.2|||(z*2^s%2^32)=p.2+z*2^s%2^32:=by rw[hlow,g4b _ _ _ hcar]
  have hmlt:z*2^s%2^32<2^32:=Nat.mod_lt _ (by decide);have hsum:p.2+z*2^s%2^32<2^32:=by
   have h1:z%2^(32 - s)+1<=2^(32 - s):=Nat.mod_lt _ (Nat.pow_pos (by decide));have h2:2^s*(z%2^(32 - s)+1)<=2^s*2^(32 - s):=Nat.mul_le_mul_left _ h1;rw[<-Nat.pow_add,show s+(32 - s)=32 by omega,Nat.mul_add]at h2;omega
  rw[e7,h5c _ _ (by omega) hmlt,hor,w32 (by omega) (by omega),Int.fdiv_eq_ediv_of_nonneg _ (by omega)];have hq:z*2^s/4294967296<4294967296:=(Nat.div_lt_iff_lt_mul (by decide)).2 (by omega);have e8:((z*2^s:Nat):Int)/4294967296=((z*2^s/4294967296:Nat):Int):=by omega
  rw[e8,w32 (by omega) (by omega)];have e9:(z*2^s+p.2)%B32=p.2+z*2^s%2^32:=by
   show(z*2^s+p.2)%4294967296=p.2+z*2^s%4294967296;omega
  have e10:(z*2^s+p.2)/B32=z*2^s/4294967296:=by
   show(z*2^s+p.2)/4294967296=_;omega
  rw[e9,e10]at hg;have z1:xs.length - i=(xs.length - (i+1))+1:=by omega
  rw[z1,List.replicate_succ,List.set_append_right _ _ (by omega),q2,Nat.sub_self,List.set_cons_zero,List.set_append_right _ _ (by omega),q2,show((i:Int)+1).toNat - i=1 by omega,List.set_cons_succ,List.set_cons_zero];rw[List.append_assoc]at hg;exact hg) (fun g=>by
  unfold P.a8i;dsimp only;obtain⟨q1,q2,q3,q4⟩:=c9u (d:=2^s) a0e hd xs.length (Nat.le_refl _);rw[List.take_length]at q3;have hcar:(b1f B32 (2^s) xs xs.length).2<2^s:=by
   have h2:a0c B32 xs*2^s<B32^xs.length*2^s:=Nat.mul_lt_mul_of_pos_right (a1n hd) hpow;exact Nat.lt_of_mul_lt_mul_left (a:=B32^xs.length) (by omega)
  rw[if_neg (by simp),Nat.sub_self];generalize b1f B32 (2^s) xs xs.length=p at*;have hdd:dig B32 (p.1++[(p.2:Int)])=true:=by
   rw[a1m,q1,Bool.true_and,a2k];refine⟨⟨Int.natCast_nonneg _,?_⟩,rfl⟩;show(p.2:Int)<4294967296;omega
  have:=c6e (B:=B32) (by decide) hdd;rw[a0y,q2,show a0c B32 [(p.2:Int)]=p.2 by simp [a0c],q3,List.length_append,q2]at this;show some (p.1++[(p.2:Int)],())=_;rw[<-this];rfl) (by omega)
 exact key
abbrev i_takeAway.A:=Option (Bool×List Int×Unit)
abbrev P.a5l (x4:Int×Int×Int×List Int×List Int×Unit) (g5:Int×Int×Int×List Int×List Int×Unit->i_takeAway.A):i_takeAway.A:=
 (fun(a b c:Int) (d e:List Int)=>if decide (a<b)then if decide (0<=a)then if decide (a<(d.length:Int))then if decide (a<(e.length:Int))then if decide (0<=a)then if decide (a<(e.length:Int))then if decide (0<=a)then if decide (a<(d.length:Int))then g5 (wrap .i64 (a+1),b,Int.fdiv (wrap .u64 ((wrap .u64 (c+(wrap .u64 (d.getD (0+a.toNat) 0))))+(wrap .u64 (e.getD a.toNat 0)))) 4294967296,d.set (0+a.toNat) (wrap .u32 (wrap .u64 ((wrap .u64 (c+(wrap .u64 (d.getD (0+a.toNat) 0))))+(wrap .u64 (e.getD a.toNat 0))))),e,())else none else none else none else none else if decide (0<=a)then if decide (a<(d.length:Int))then g5 (wrap .i64 (a+1),b,Int.fdiv (wrap .u64 (c+(wrap .u64 (d.getD (0+a.toNat) 0)))) 4294967296,d.set (0+a.toNat) (wrap .u32 (wrap .u64 (c+(wrap .u64 (d.getD (0+a.toNat) 0))))),e,())else none else none else none else none else some (true,d,())) x4.1 x4.2.1 x4.2.2.1 x4.2.2.2.1 x4.2.2.2.2.1
abbrev P.b3v (k:Nat) (x1:Int×Int×List Int×Int×Int×List Int×Int×Unit) (g2:Int×Int×List Int×Int×Int×List Int×Int×Unit->i_takeAway.A):i_takeAway.A:=
 (fun(a b d e h:Int) (c f:List Int)=>if decide (a<b)then if decide (a<(c.length:Int))then if decide (0<=a)then if decide (a<(c.length:Int))then if decide (0<=a)then if decide (a<(f.length:Int))then if decide ((wrap .i64 ((wrap .i64 ((wrap .i64 (f.getD (0+a.toNat) 0)) - (wrap .i64 (wrap .u32 (wrap .u64 (d+(wrap .u64 (e*(wrap .u64 (c.getD a.toNat 0)))))))))) - h))<0)then if decide (0<=a)then if decide (a<(f.length:Int))then g2 (wrap .i64 (a+1),b,c,Int.fdiv (wrap .u64 (d+(wrap .u64 (e*(wrap .u64 (c.getD a.toNat 0)))))) 4294967296,e,f.set (0+a.toNat) (wrap .u32 (wrap .i64 ((wrap .i64 ((wrap .i64 (f.getD (0+a.toNat) 0)) - (wrap .i64 (wrap .u32 (wrap .u64 (d+(wrap .u64 (e*(wrap .u64 (c.getD a.toNat 0)))))))))) - h))),1,())else none else none else if decide (0<=a)then if decide (a<(f.length:Int))then g2 (wrap .i64 (a+1),b,c,Int.fdiv (wrap .u64 (d+(wrap .u64 (e*(wrap .u64 (c.getD a.toNat 0)))))) 4294967296,e,f.set (0+a.toNat) (wrap .u32 (wrap .i64 ((wrap .i64 ((wrap .i64 (f.getD (0+a.toNat) 0)) - (wrap .i64 (wrap .u32 (wrap .u64 (d+(wrap .u64 (e*(wrap .u64 (c.getD a.toNat 0)))))))))) - h))),0,())else none else none else none else none else none else none else if decide (0<=a)then if decide (a<(f.length:Int))then if decide ((wrap .i64 ((wrap .i64 ((wrap .i64 (f.getD (0+a.toNat) 0)) - (wrap .i64 (wrap .u32 d)))) - h))<0)then if decide (0<=a)then if decide (a<(f.length:Int))then g2 (wrap .i64 (a+1),b,c,Int.fdiv d 4294967296,e,f.set (0+a.toNat) (wrap .u32 (wrap .i64 ((wrap .i64 ((wrap .i64 (f.getD (0+a.toNat) 0)) - (wrap .i64 (wrap .u32 d)))) - h))),1,())else none else none else if decide (0<=a)then if decide (a<(f.length:Int))then g2 (wrap .i64 (a+1),b,c,Int.fdiv d 4294967296,e,f.set (0+a.toNat) (wrap .u32 (wrap .i64 ((wrap .i64 ((wrap .i64 (f.getD (0+a.toNat) 0)) - (wrap .i64 (wrap .u32 d)))) - h))),0,())else none else none else none else none else if h==0 then if d==0 then some (false,f,())else loopP P.a5l k (0,(f.length:Int),0,f,c,())else loopP P.a5l k (0,(f.length:Int),0,f,c,())) x1.1 x1.2.1 x1.2.2.2.1 x1.2.2.2.2.1 x1.2.2.2.2.2.2.1 x1.2.2.1 x1.2.2.2.2.2.1
def P.c7j (k:Nat) (x:List Int×List Int×Int×Unit):i_takeAway.A:=
 loopP (P.b3v k) k (0,(x.1.length:Int),x.2.1,0,x.2.2.1,x.1,0,())
theorem g5o (b:(Int×(Int×(Int×((List Int)×((List Int)×Unit)))))->((Int×(Int×(Int×((List Int)×((List Int)×Unit)))))->Option (Bool×((List Int)×Unit)))->Option (Bool×((List Int)×Unit))) (hb:b=P.a5l)
  (xs ys:List Int) (hx:dig B32 xs=true) (hy:dig B32 ys=true) (hl:ys.length<=xs.length) (hbig:xs.length<=100000000000):
  loopP b (xs.length+1) ((0:Int),((xs.length:Int),((0:Int),(xs,(ys,())))))=some (true,fd B32 xs.length (a0c B32 xs+a0c B32 ys),()):=by
 subst hb;have key:=a0f (k:=xs.length+1) (b:=P.a5l) (n:=xs.length) (st:=fun i=>((i:Int),(xs.length:Int),((a1e B32 xs ys i).2:Int),(a1e B32 xs ys i).1++xs.drop i,ys,())) (F:=fun i=>some (true,fd B32 xs.length (a0c B32 xs+a0c B32 ys),())) (fun i g hi hg=>by
  unfold P.a5l;dsimp only at hg ⊢;obtain⟨q1,q2,q3,q4⟩:=b3o a0e hx hy i;have gx:=a1b (B:=B32) (by decide) hx i;have gy:=a1b (B:=B32) (by decide) hy i;have gx1:xs.getD i 0<4294967296:=gx.2;have gy1:ys.getD i 0<4294967296:=gy.2;have gx0:=gx.1;have gy0:=gy.1;have hlen:((a1e B32 xs ys i).1++xs.drop i).length=xs.length:=by rw[List.length_append,q2,List.length_drop];omega
  have e1:(i:Int)<(xs.length:Int):=by omega
  have e2:(0:Int)<=(i:Int):=by omega
  rw[hlen];simp only[e1,e2,decide_true,if_true,Nat.zero_add,Int.toNat_natCast];rw[a2w hi,b1g q2];simp only[b3e q2];have hnat:∀n:Nat,n=(a1e B32 xs ys i).2+(xs.getD i 0).toNat+(ys.getD i 0).toNat->(((n%B32:Nat):Int)=(n:Int)%4294967296/\((n/B32:Nat):Int)=(n:Int)/4294967296):=by
   intro n _;constructor
   ·show((n%4294967296:Nat):Int)=_;omega
   ·show((n/4294967296:Nat):Int)=_;omega
  obtain⟨n1,n2⟩:=hnat _ rfl;rw[a1e]at hg;dsimp only at hg;rw[n1,n2]at hg
  by_cases hj:(i:Int)<(ys.length:Int)
  ·rw[if_pos (decide_eq_true hj),if_pos (decide_eq_true hj)];rw[wu (x:=xs.getD i 0) (by omega) (by omega),wu (x:=ys.getD i 0) (by omega) (by omega),wu (x:=((a1e B32 xs ys i).2:Int)+xs.getD i 0) (by omega) (by omega),wu (x:=((a1e B32 xs ys i).2:Int)+xs.getD i 0+ys.getD i 0) (by omega) (by omega),b9p _ (by omega),Int.fdiv_eq_ediv_of_nonneg _ (by omega),wr (by omega) (by omega)];have e:(((a1e B32 xs ys i).2+(xs.getD i 0).toNat+(ys.getD i 0).toNat:Nat):Int)=((a1e B32 xs ys i).2:Int)+xs.getD i 0+ys.getD i 0:=by omega
   rw[e]at hg;exact hg
  ·rw[if_neg (by simpa using hj)];have y0:ys.getD i 0=0:=by rw[List.getD_eq_getElem?_getD,List.getElem?_eq_none (by omega)];rfl
   rw[wu (x:=xs.getD i 0) (by omega) (by omega),wu (x:=((a1e B32 xs ys i).2:Int)+xs.getD i 0) (by omega) (by omega),b9p _ (by omega),Int.fdiv_eq_ediv_of_nonneg _ (by omega),wr (by omega) (by omega)];have e:(((a1e B32 xs ys i).2+(xs.getD i 0).toNat+(ys.getD i 0).toNat:Nat):Int)=((a1e B32 xs ys i).2:Int)+xs.getD i 0:=by omega
   rw[e]at hg;exact hg) (fun g=>by
  unfold P.a5l;dsimp only;rw[if_neg (by simp),List.drop_length,List.append_nil,g4c a0e hx hy hl]) (by omega)
 have e0:(a1e B32 xs ys 0).1++xs.drop 0=xs:=rfl;rw[e0]at key;exact key
def S.a8z (x:((List Int)×((List Int)×(Int×Unit)))):(Option (Bool×((List Int)×Unit))):=
 if dig B32 x.1=true/\dig B32 x.2.1=true/\0<=x.2.2.1/\x.2.2.1<4294967296/\x.2.1.length<=x.1.length/\x.1.length<=10000000000/\a0c B32 x.2.1*x.2.2.1.toNat<=a0c B32 x.1+a0c B32 x.2.1 then
  (if a0c B32 x.2.1*x.2.2.1.toNat<=a0c B32 x.1 then some (false,fd B32 x.1.length (a0c B32 x.1 - a0c B32 x.2.1*x.2.2.1.toNat),())
   else some (true,fd B32 x.1.length (a0c B32 x.1+a0c B32 x.2.1 - a0c B32 x.2.1*x.2.2.1.toNat),()))else none
theorem S.e1o (x r) (h:S.a8z x=some r):∃k,P.c7j k x=some r:=by
 obtain⟨xs,ys,t',u⟩:=x;unfold S.a8z at h;dsimp only at h;split at h
 case isFalse=>cases h
 rename_i hc;obtain⟨hx,hy,ht0,ht1,hl,hbig,hfit⟩:=hc;obtain⟨t,rfl⟩:∃d:Nat,t'=(d:Int):=⟨t'.toNat,by omega⟩
 rw[Int.toNat_natCast]at h hfit;have ht:t<=4294967295:=by omega
 refine⟨xs.length+1,?_⟩;rw[<-h];unfold P.c7j;dsimp only;have key:=a0f (k:=xs.length+1) (b:=P.b3v (xs.length+1)) (n:=xs.length) (st:=fun i=>((i:Int),(xs.length:Int),ys,((a2i B32 t xs ys i).2.1:Int),(t:Int),(a2i B32 t xs ys i).1++xs.drop i,((a2i B32 t xs ys i).2.2:Int),())) (F:=fun i=>(if a0c B32 ys*t<=a0c B32 xs then some (false,fd B32 xs.length (a0c B32 xs - a0c B32 ys*t),())
   else some (true,fd B32 xs.length (a0c B32 xs+a0c B32 ys - a0c B32 ys*t),()))) (fun i g hi hg=>by
  unfold P.b3v;dsimp only at hg ⊢;obtain⟨q1,q2,q3,q4,q5⟩:=b9q (t:=t) a0e hx hy i;have gx:=a1b (B:=B32) (by decide) hx i;have gy:=a1b (B:=B32) (by decide) hy i;have gx1:xs.getD i 0<4294967296:=gx.2;have gy1:ys.getD i 0<4294967296:=gy.2;have gx0:=gx.1;have gy0:=gy.1;have hlen:((a2i B32 t xs ys i).1++xs.drop i).length=xs.length:=by rw[List.length_append,q2,List.length_drop];omega
  have e1:(i:Int)<(xs.length:Int):=by omega
  have e2:(0:Int)<=(i:Int):=by omega
  rw[hlen];simp only[e1,e2,decide_true,if_true,Nat.zero_add,Int.toNat_natCast];rw[a2w hi,b1g q2];simp only[b3e q2];rw[a2i]at hg;dsimp only at hg;have y0:¬((i:Int)<(ys.length:Int))->ys.getD i 0=0:=by
   intro hj;rw[List.getD_eq_getElem?_getD,List.getElem?_eq_none (by omega)];rfl
  generalize xs.getD i 0=x at*;generalize ys.getD i 0=y at*;generalize a2i B32 t xs ys i=p at*;obtain⟨pl,c0,l0⟩:=p;dsimp only at*;obtain⟨Y,rfl⟩:∃Y:Nat,y=(Y:Int):=⟨y.toNat,by omega⟩
  rw[Int.toNat_natCast]at hg;have htY:t*Y<=4294967295*4294967295:=Nat.mul_le_mul ht (by omega);have em:(t:Int)*(Y:Int)=((t*Y:Nat):Int):=(Int.natCast_mul _ _).symm;have fin:∀c:Nat,c=c0+t*Y->(let n:=IntKind.wrap .i64 (IntKind.wrap .i64 (IntKind.wrap .i64 x - IntKind.wrap .i64 (IntKind.wrap .u32 (c:Int))) - (l0:Int))
    (if decide (n<0)=true then g (IntKind.wrap .i64 ((i:Int)+1),(xs.length:Int),ys,Int.fdiv (c:Int) 4294967296,(t:Int),(pl++[IntKind.wrap .u32 n])++xs.drop (i+1),1,())
     else g (IntKind.wrap .i64 ((i:Int)+1),(xs.length:Int),ys,Int.fdiv (c:Int) 4294967296,(t:Int),(pl++[IntKind.wrap .u32 n])++xs.drop (i+1),0,()))=(if a0c B32 ys*t<=a0c B32 xs then some (false,fd B32 xs.length (a0c B32 xs - a0c B32 ys*t),())
   else some (true,fd B32 xs.length (a0c B32 xs+a0c B32 ys - a0c B32 ys*t),()))):=by
   intro c hcc;rw[<-hcc]at hg;have e8:(c:Int)%4294967296=((c%B32:Nat):Int):=by
    show _=((c%4294967296:Nat):Int)
    omega
   have e9:Int.fdiv (c:Int) 4294967296=((c/B32:Nat):Int):=by
    rw[Int.fdiv_eq_ediv_of_nonneg _ (by omega)];show _=((c/4294967296:Nat):Int)
    omega
   have e10:c%B32<4294967296:=Nat.mod_lt _ (by decide);rw[b9p (c:Int) (by omega),e8,e9,wr (x:=(i:Int)+1) (by omega) (by omega),wr (x:=x) (by omega) (by omega),wr (x:=((c%B32:Nat):Int)) (by omega) (by omega),wr (x:=x - ((c%B32:Nat):Int)) (by omega) (by omega),wr (x:=x - ((c%B32:Nat):Int) - (l0:Int)) (by omega) (by omega)];dsimp only;rw[c3u]
   by_cases hn:x - ((c%B32:Nat):Int) - (l0:Int)<0
   ·rw[if_pos hn]at hg;rw[if_pos (decide_eq_true hn)];exact hg
   ·rw[if_neg hn]at hg;rw[if_neg (by simpa using hn)];exact hg
  by_cases hj:(i:Int)<(ys.length:Int)
  ·simp only[hj,decide_true,if_true];rw[wu (x:=(Y:Int)) (by omega) (by omega),em,wu (x:=((t*Y:Nat):Int)) (by omega) (by omega),<-Int.natCast_add,wu (x:=((c0+t*Y:Nat):Int)) (by omega) (by omega)];exact fin _ rfl
  ·rw[if_neg (by simpa using hj)];have hY:Y=0:=by have:=y0 hj;omega
   subst hY;exact fin c0 rfl) (fun g=>by
  unfold P.b3v;dsimp only;obtain⟨q1,q2,q3,q4,q5⟩:=b9q (t:=t) a0e hx hy xs.length;rw[List.take_length,List.take_of_length_le hl]at q3;rw[if_neg (by simp),List.drop_length,List.append_nil];generalize a2i B32 t xs ys xs.length=p at*;obtain⟨pl,c0,l0⟩:=p;dsimp only at*;have hlt:=a1n q1;rw[q2]at hlt;have hback:∀b,b=P.a5l->0<c0+l0->loopP b (xs.length+1) ((0:Int),((pl.length:Int),((0:Int),(pl,(ys,())))))=(if a0c B32 ys*t<=a0c B32 xs then some (false,fd B32 xs.length (a0c B32 xs - a0c B32 ys*t),())
   else some (true,fd B32 xs.length (a0c B32 xs+a0c B32 ys - a0c B32 ys*t),())):=by
   intro b hb hpos;have hge:B32^xs.length*1<=B32^xs.length*(c0+l0):=Nat.mul_le_mul_left _ hpos;rw[if_neg (by omega)];have:=g5o b hb pl ys q1 hy (by omega) (by omega);rw[q2]at this;rw[q2,this];congr 2;have e1:a0c B32 pl+a0c B32 ys=(a0c B32 xs+a0c B32 ys - a0c B32 ys*t)+B32^xs.length*(c0+l0):=by omega
   rw[e1,<-c1t B32 xs.length (_+_),Nat.add_mul_mod_self_left,c1t]
  by_cases hl0:l0=0
  ·subst hl0;rw[if_pos (by rfl)]
   by_cases hc0:c0=0
   ·subst hc0;rw[if_pos (by rfl),if_pos (by omega)];congr 2;have:pl=fd B32 xs.length (a0c B32 xs - a0c B32 ys*t):=f4v a0e q1 q2 (by omega);rw[this]
   ·rw[if_neg (by simp;omega)];exact hback _ rfl (by omega)
  ·rw[if_neg (by simp;omega)];exact hback _ rfl (by omega)) (by omega)
 exact key
abbrev i_nat_div.A:=Int×Int×Int×List Int×Int×Int×Int×List Int×List Int×Int×Unit
abbrev i_nat_div.B:=Int×List Int×List Int×Int×Int×List Int×Int×Unit
abbrev i_nat_div.C:=Option ((List Int×List Int)×Unit)
abbrev P.b3w (g20:i_nat_div.B->i_nat_div.C) (x22:i_nat_div.A) (g23:i_nat_div.A->i_nat_div.C):i_nat_div.C:=
 (fun(a b c e f h l:Int) (d i j:List Int)=>if decide (a>=4294967296)then if decide ((wrap .u64 (c+f))>=4294967296)then if decide (0<=(wrap .i64 (e+1)))then if decide (((wrap .i64 (e+1))+0)<=(d.length:Int))then if decide (0<=h)then if decide (h<=(wrap .i64 (e+1)))then(S.a8z (seen d (0+h.toNat) ((Int.toNat (wrap .i64 (e+1))) - h.toNat),i,wrap .u64 (a - 1),())).bind fun y24=>if y24.1 then if decide (0<=h)then if decide (h<(j.length:Int))then g20 (wrap .i64 (h - 1),i,splice d y24.2.1 (0+h.toNat),f,b,j.set (0+h.toNat) (wrap .u32 (wrap .u64 ((wrap .u64 (a - 1)) - 1))),l,())else none else none else if decide (0<=h)then if decide (h<(j.length:Int))then g20 (wrap .i64 (h - 1),i,splice d y24.2.1 (0+h.toNat),f,b,j.set (0+h.toNat) (wrap .u32 (wrap .u64 (a - 1))),l,())else none else none else none else none else none else none else g23 (wrap .u64 (a - 1),b,wrap .u64 (c+f),d,e,f,h,i,j,l,())else if decide (0<=(wrap .i64 (e - 2)))then if decide ((wrap .i64 (e - 2))<(d.length:Int))then if decide ((wrap .u64 (a*b))>(wrap .u64 ((wrap .u64 (c*4294967296))+(wrap .u64 (d.getD (0+(Int.toNat (wrap .i64 (e - 2)))) 0)))))then if decide ((wrap .u64 (c+f))>=4294967296)then if decide (0<=(wrap .i64 (e+1)))then if decide (((wrap .i64 (e+1))+0)<=(d.length:Int))then if decide (0<=h)then if decide (h<=(wrap .i64 (e+1)))then(S.a8z (seen d (0+h.toNat) ((Int.toNat (wrap .i64 (e+1))) - h.toNat),i,wrap .u64 (a - 1),())).bind fun y25=>if y25.1 then if decide (0<=h)then if decide (h<(j.length:Int))then g20 (wrap .i64 (h - 1),i,splice d y25.2.1 (0+h.toNat),f,b,j.set (0+h.toNat) (wrap .u32 (wrap .u64 ((wrap .u64 (a - 1)) - 1))),l,())else none else none else if decide (0<=h)then if decide (h<(j.length:Int))then g20 (wrap .i64 (h - 1),i,splice d y25.2.1 (0+h.toNat),f,b,j.set (0+h.toNat) (wrap .u32 (wrap .u64 (a - 1))),l,())else none else none else none else none else none else none else g23 (wrap .u64 (a - 1),b,wrap .u64 (c+f),d,e,f,h,i,j,l,())else if decide (0<=(wrap .i64 (e+1)))then if decide (((wrap .i64 (e+1))+0)<=(d.length:Int))then if decide (0<=h)then if decide (h<=(wrap .i64 (e+1)))then(S.a8z (seen d (0+h.toNat) ((Int.toNat (wrap .i64 (e+1))) - h.toNat),i,a,())).bind fun y26=>if y26.1 then if decide (0<=h)then if decide (h<(j.length:Int))then g20 (wrap .i64 (h - 1),i,splice d y26.2.1 (0+h.toNat),f,b,j.set (0+h.toNat) (wrap .u32 (wrap .u64 (a - 1))),l,())else none else none else if decide (0<=h)then if decide (h<(j.length:Int))then g20 (wrap .i64 (h - 1),i,splice d y26.2.1 (0+h.toNat),f,b,j.set (0+h.toNat) (wrap .u32 a),l,())else none else none else none else none else none else none else none else none) x22.1 x22.2.1 x22.2.2.1 x22.2.2.2.2.1 x22.2.2.2.2.2.1 x22.2.2.2.2.2.2.1 x22.2.2.2.2.2.2.2.2.2.1 x22.2.2.2.1 x22.2.2.2.2.2.2.2.1 x22.2.2.2.2.2.2.2.2.1
abbrev P.a9z (x28:Int×Int×List Int×Int×List Int×Unit) (g29:Int×Int×List Int×Int×List Int×Unit->i_nat_div.C):i_nat_div.C:=
 (fun(a b d:Int) (c e:List Int)=>if decide (a<b)then if decide ((wrap .i64 (a+1))<(c.length:Int))then if decide (0<=(wrap .i64 (a+1)))then if decide ((wrap .i64 (a+1))<(c.length:Int))then if decide (0<=a)then if decide (a<(c.length:Int))then if decide (d<0)then none else if decide (0<=a)then if decide (a<(c.length:Int))then g29 (wrap .i64 (a+1),b,c.set (0+a.toNat) (wrap .u32 (Int.fdiv (wrap .u64 ((wrap .u64 ((wrap .u64 (c.getD (0+(Int.toNat (wrap .i64 (a+1)))) 0))*4294967296))+(wrap .u64 (c.getD (0+a.toNat) 0)))) ((2:Int)^(Min.min d.toNat 64)))),d,e,())else none else none else none else none else none else none else if decide (0<=a)then if decide (a<(c.length:Int))then if decide (d<0)then none else if decide (0<=a)then if decide (a<(c.length:Int))then g29 (wrap .i64 (a+1),b,c.set (0+a.toNat) (wrap .u32 (Int.fdiv (wrap .u64 (0+(wrap .u64 (c.getD (0+a.toNat) 0)))) ((2:Int)^(Min.min d.toNat 64)))),d,e,())else none else none else none else none else if decide (e.length<=1000000000000)then if decide (c.length<=1000000000000)then some ((List.take (List.length (List.dropWhile (fun(y30:Int)=>y30==0) (List.reverseAux e []))) e,List.take (List.length (List.dropWhile (fun(y31:Int)=>y31==0) (List.reverseAux c []))) c),())else none else none) x28.1 x28.2.1 x28.2.2.2.1 x28.2.2.1 x28.2.2.2.2.1
abbrev P.b0a (k:Nat) (x19:i_nat_div.B) (g20:i_nat_div.B->i_nat_div.C):i_nat_div.C:=
 (fun(a d e h:Int) (b c f:List Int)=>if decide (a>=0)then if decide (0<=(wrap .i64 (a+(b.length:Int))))then if decide ((wrap .i64 (a+(b.length:Int)))<(c.length:Int))then if decide (0<=(wrap .i64 ((wrap .i64 (a+(b.length:Int))) - 1)))then if decide ((wrap .i64 ((wrap .i64 (a+(b.length:Int))) - 1))<(c.length:Int))then if decide (d=0)then none else if decide (d=0)then none else loopP (P.b3w g20) k (wrap .u64 (Int.tdiv (wrap .u64 ((wrap .u64 ((wrap .u64 (c.getD (0+(Int.toNat (wrap .i64 (a+(b.length:Int))))) 0))*4294967296))+(wrap .u64 (c.getD (0+(Int.toNat (wrap .i64 ((wrap .i64 (a+(b.length:Int))) - 1)))) 0)))) d),e,Int.tmod (wrap .u64 ((wrap .u64 ((wrap .u64 (c.getD (0+(Int.toNat (wrap .i64 (a+(b.length:Int))))) 0))*4294967296))+(wrap .u64 (c.getD (0+(Int.toNat (wrap .i64 ((wrap .i64 (a+(b.length:Int))) - 1)))) 0)))) d,c,wrap .i64 (a+(b.length:Int)),d,a,b,f,h,())else none else none else none else none else if decide (c.length<=1000000000000)then loopP P.a9z k (0,(List.length (List.take (List.length (List.dropWhile (fun(y32:Int)=>y32==0) (List.reverseAux c []))) c):Int),List.take (List.length (List.dropWhile (fun(y33:Int)=>y33==0) (List.reverseAux c []))) c,h,f,())else none) x19.1 x19.2.2.2.1 x19.2.2.2.2.1 x19.2.2.2.2.2.2.1 x19.2.1 x19.2.2.1 x19.2.2.2.2.2.1
def P.d3t (k:Nat) (x:List Int×List Int×Unit):i_nat_div.C:=
 (S.a1k (x.1,x.2.1,())).bind fun y0=>if decide (y0.1<0)then some (([],x.1),())else if(x.2.1.length:Int)==1 then if decide (0<(x.2.1.length:Int))then(S.a2y (x.1,x.2.1.getD 0 0,())).bind fun y1=>if decide ((List.length [y1.1.2])<=1000000000000)then some ((y1.1.1,List.take (List.length (List.filter.match_1 (fun(y2:Bool)=>List Int) (y1.1.2==0) (fun(y3:Unit)=>[]) (fun(y4:Unit)=>[y1.1.2]))) [y1.1.2]),())else none else none else if decide (0<=(wrap .i64 ((x.2.1.length:Int) - 1)))then if decide ((wrap .i64 ((x.2.1.length:Int) - 1))<(x.2.1.length:Int))then(S.a3h (x.2.1.getD (Int.toNat (wrap .i64 ((x.2.1.length:Int) - 1))) 0,())).bind fun y5=>(S.a3r (x.1,y5.1,())).bind fun y6=>(S.a3r (x.2.1,y5.1,())).bind fun y7=>if decide (y7.1.length<=1000000000000)then if decide (0<=(wrap .i64 ((List.length (List.take (List.length (List.dropWhile (fun(y8:Int)=>y8==0) (List.reverseAux y7.1 []))) y7.1):Int) - 1)))then if decide ((wrap .i64 ((List.length (List.take (List.length (List.dropWhile (fun(y9:Int)=>y9==0) (List.reverseAux y7.1 []))) y7.1):Int) - 1))<(List.length (List.take (List.length (List.dropWhile (fun(y10:Int)=>y10==0) (List.reverseAux y7.1 []))) y7.1):Int))then if decide (0<=(wrap .i64 ((List.length (List.take (List.length (List.dropWhile (fun(y11:Int)=>y11==0) (List.reverseAux y7.1 []))) y7.1):Int) - 2)))then if decide ((wrap .i64 ((List.length (List.take (List.length (List.dropWhile (fun(y12:Int)=>y12==0) (List.reverseAux y7.1 []))) y7.1):Int) - 2))<(List.length (List.take (List.length (List.dropWhile (fun(y13:Int)=>y13==0) (List.reverseAux y7.1 []))) y7.1):Int))then if decide (0<=(wrap .i64 ((y6.1.length:Int) - (List.length (List.take (List.length (List.dropWhile (fun(y14:Int)=>y14==0) (List.reverseAux y7.1 []))) y7.1):Int))))then if decide ((wrap .i64 ((y6.1.length:Int) - (List.length (List.take (List.length (List.dropWhile (fun(y15:Int)=>y15==0) (List.reverseAux y7.1 []))) y7.1):Int)))<=(wrap .i64 ((y6.1.length:Int) - (List.length (List.take (List.length (List.dropWhile (fun(y16:Int)=>y16==0) (List.reverseAux y7.1 []))) y7.1):Int))))then if decide (((wrap .i64 ((y6.1.length:Int) - (List.length (List.take (List.length (List.dropWhile (fun(y17:Int)=>y17==0) (List.reverseAux y7.1 []))) y7.1):Int)))*4)<=281474976710656)then loopP (P.b0a k) k (wrap .i64 ((List.length (List.replicate (Int.toNat (wrap .i64 ((y6.1.length:Int) - (List.length (List.take (List.length (List.dropWhile (fun(y34:Int)=>y34==0) (List.reverseAux y7.1 []))) y7.1):Int)))) (0:Int)):Int) - 1),List.take (List.length (List.dropWhile (fun(y35:Int)=>y35==0) (List.reverseAux y7.1 []))) y7.1,y6.1,wrap .u64 (List.getD (List.take (List.length (List.dropWhile (fun(y36:Int)=>y36==0) (List.reverseAux y7.1 []))) y7.1) (0+(Int.toNat (wrap .i64 ((List.length (List.take (List.length (List.dropWhile (fun(y37:Int)=>y37==0) (List.reverseAux y7.1 []))) y7.1):Int) - 1)))) 0),wrap .u64 (List.getD (List.take (List.length (List.dropWhile (fun(y38:Int)=>y38==0) (List.reverseAux y7.1 []))) y7.1) (0+(Int.toNat (wrap .i64 ((List.length (List.take (List.length (List.dropWhile (fun(y39:Int)=>y39==0) (List.reverseAux y7.1 []))) y7.1):Int) - 2)))) 0),List.replicate (Int.toNat (wrap .i64 ((y6.1.length:Int) - (List.length (List.take (List.length (List.dropWhile (fun(y40:Int)=>y40==0) (List.reverseAux y7.1 []))) y7.1):Int)))) 0,y5.1,())else none else none else none else none else none else none else none else none else none else none
theorem h1b (g:(Int×((List Int)×((List Int)×(Int×(Int×((List Int)×(Int×Unit)))))))->(Option (((List Int)×(List Int))×Unit))) (F:Option (((List Int)×(List Int))×Unit)) {u0 vs:List Int} {m j:Nat} {top next sh:Int}
  (h0:dig B32 u0=true) (hv:dig B32 vs=true) (hN:u0.length=m+vs.length) (hbig:u0.length<=1000000000) (hj:j<m) (hV:0<a0c B32 vs)
  (hg:g ((j:Int) - 1,(vs,(ldU B32 (a0c B32 vs) u0 j,(top,(next,(ldQ B32 (a0c B32 vs) u0 m j,(sh,())))))))=F)
  (q:Nat) (hq:q<4294967296) (h1:ldW B32 (a0c B32 vs) u0 j/a0c B32 vs<=q) (h2:q*a0c B32 vs<ldW B32 (a0c B32 vs) u0 j+a0c B32 vs) (q':Int) (hq':q'=(q:Int)):
  (if((decide ((0:Int)<=(IntKind.wrap .i64 (((j+vs.length:Nat):Int)+(1:Int)))))=true)then(if((decide (((IntKind.wrap .i64 (((j+vs.length:Nat):Int)+(1:Int)))+(0:Int))<=((List.length (ldU B32 (a0c B32 vs) u0 (j+1))):Int)))=true)then(if((decide ((0:Int)<=(j:Int)))=true)then(if((decide ((j:Int)<=(IntKind.wrap .i64 (((j+vs.length:Nat):Int)+(1:Int)))))=true)then(Option.bind (S.a8z ((Go.Cm.seen (ldU B32 (a0c B32 vs) u0 (j+1)) ((0:Nat)+(Int.toNat (j:Int))) ((Int.toNat (IntKind.wrap .i64 (((j+vs.length:Nat):Int)+(1:Int)))) - (Int.toNat (j:Int)))),(vs,(q',())))) (fun(y26:(Bool×((List Int)×Unit)))=>(if(y26.1=true)then(if((decide ((0:Int)<=(j:Int)))=true)then(if((decide ((j:Int)<((List.length (ldQ B32 (a0c B32 vs) u0 m (j+1))):Int)))=true)then(g ((IntKind.wrap .i64 ((j:Int) - (1:Int))),(vs,((Go.Cm.splice (ldU B32 (a0c B32 vs) u0 (j+1)) y26.2.1 ((0:Nat)+(Int.toNat (j:Int)))),(top,(next,((List.set (ldQ B32 (a0c B32 vs) u0 m (j+1)) ((0:Nat)+(Int.toNat (j:Int))) (IntKind.wrap .u32 (IntKind.wrap .u64 (q' - (1:Int))))),(sh,()))))))))
 else none)
 else none)
 else(if((decide ((0:Int)<=(j:Int)))=true)then(if((decide ((j:Int)<((List.length (ldQ B32 (a0c B32 vs) u0 m (j+1))):Int)))=true)then(g ((IntKind.wrap .i64 ((j:Int) - (1:Int))),(vs,((Go.Cm.splice (ldU B32 (a0c B32 vs) u0 (j+1)) y26.2.1 ((0:Nat)+(Int.toNat (j:Int)))),(top,(next,((List.set (ldQ B32 (a0c B32 vs) u0 m (j+1)) ((0:Nat)+(Int.toNat (j:Int))) (IntKind.wrap .u32 q')),(sh,()))))))))
 else none)
 else none))))
 else none)
 else none)
 else none)
 else none)=F:=by
 subst hq';have hhi:=a1n hv;have hA:(u0.take j).length=j:=by simp;omega
 have hQ:=h5s a0e hV h0 (show j<u0.length by omega) hj;have hQl:(ldQ B32 (a0c B32 vs) u0 m (j+1)).length=m:=by unfold ldQ;rw[List.length_append,List.length_replicate,a3c];omega
 have hUl:=d1h a0e hV h0 hN hj hhi;have hs:=e9l a0e hV h0 (show j<u0.length by omega);have hs':=h5r a0e hV h0 (show j<u0.length by omega);have hvl:vs.length<=vs.length+1:=by omega
 have hve:∀X,X<B32^(vs.length+1)->fd B32 (u0.length - j) X=fd B32 (vs.length+1) X++List.replicate (m - 1 - j) 0:=by
  intro X hX;rw[show u0.length - j=(vs.length+1)+(m - 1 - j) by omega,e4i hX]
 have hVl:a0c B32 vs<B32^(vs.length+1):=Nat.lt_of_lt_of_le hhi (Nat.pow_le_pow_right (by decide) hvl);generalize hn:vs.length=n at*;generalize hVV:a0c B32 vs=V at*;generalize hUU:ldW B32 V u0 j=U at*;have hdm:=Nat.mod_add_div U V;have hml:=Nat.mod_lt U hV;obtain⟨n1,n2⟩:=h5q hV h1 h2;generalize U/V=Q at*;generalize U%V=M at*;have hM:=hve M (by omega);have hU':=hve U hUl;rw[hM]at hs';rw[hU']at hs;generalize hR:List.replicate (m - 1 - j) (0:Int)=R at*;have hRl:R.length=m - 1 - j:=by rw[<-hR,List.length_replicate]
 have e1:(0:Int)<=(j:Int):=by omega
 have e2:(j:Int)<(m:Int):=by omega
 have e3:(0:Int)<=((j+n:Nat):Int)+1:=by omega
 have e4:(j:Int)<=((j+n:Nat):Int)+1:=by omega
 have hlen:(ldU B32 V u0 (j+1)).length=j+n+1+R.length:=by
  rw[hs,List.length_append,List.length_append,hA,a3c];omega
 have e5:((j+n:Nat):Int)+1+0<=((j+n+1+R.length:Nat):Int):=by omega
 rw[wr (x:=((j+n:Nat):Int)+1) (by omega) (by omega),hlen,hQl];simp only[e1,e2,e3,e4,e5,decide_true,if_true,Nat.zero_add,Int.toNat_natCast];have hseen:seen (ldU B32 V u0 (j+1)) j ((((j+n:Nat):Int)+1).toNat - j)=fd B32 (n+1) U:=by
  unfold seen;rw[hs,List.drop_left' hA,show(((j+n:Nat):Int)+1).toNat - j=n+1 by omega];exact List.take_left' (a3c _ _ _)
 have hspl:∀X,splice (ldU B32 V u0 (j+1)) (fd B32 (n+1) X) j=u0.take j++(fd B32 (n+1) X++R):=by
  intro X;unfold splice;rw[hs,List.take_left' hA,a3c,<-List.drop_drop,List.drop_left' hA,List.drop_left' (a3c _ _ _),List.append_assoc]
 rw[hseen];have hd:a0c B32 (fd B32 (n+1) U)=U:=by rw[b7y,Nat.mod_eq_of_lt hUl]
 unfold S.a8z;dsimp only;rw[a3c,hd,hVV,hn,Int.toNat_natCast,if_pos ⟨b5u (by decide) _ _,hv,by omega,by omega,by omega,by omega,by rw[Nat.mul_comm];omega⟩];rw[Nat.mul_comm q V]at n1 n2
 by_cases hle:V*q<=U
 ·have hqe:=n1 hle;have hsub:U - V*q=M:=by rw[hqe];omega
  rw[if_pos hle,Option.bind_some,hsub];dsimp only;rw[if_neg (by simp),hspl,<-hs',w32 (by omega) (by omega),hqe,hQ,wr (by omega) (by omega)];exact hg
 ·have hqe:=n2 (by omega);have hsub:U+V - V*q=M:=by rw[hqe,Nat.mul_add];omega
  rw[if_neg hle,Option.bind_some,hsub];dsimp only;rw[if_pos rfl,hspl,<-hs',wu (x:=(q:Int) - 1) (by omega) (by omega),w32 (by omega) (by omega),hqe,show((Q+1:Nat):Int) - 1=((Q:Nat):Int) by omega,hQ,wr (by omega) (by omega)];exact hg
theorem g5p (g:(Int×((List Int)×((List Int)×(Int×(Int×((List Int)×(Int×Unit)))))))->(Option (((List Int)×(List Int))×Unit))) (F:Option (((List Int)×(List Int))×Unit)) {u0 vs:List Int} {m j:Nat} {sh:Int}
  (h0:dig B32 u0=true) (hv:dig B32 vs=true) (hN:u0.length=m+vs.length) (hbig:u0.length<=1000000000) (hj:j<m) (hn2:2<=vs.length) (hlo:B32^(vs.length - 1)<=a0c B32 vs)
  (hg:g ((j:Int) - 1,(vs,(ldU B32 (a0c B32 vs) u0 j,(((a0c B32 vs/B32^(vs.length - 1):Nat):Int),(((a0c B32 vs/B32^(vs.length - 2)%B32:Nat):Int),(ldQ B32 (a0c B32 vs) u0 m j,(sh,())))))))=F) (w:Nat):
  ∀q r k:Nat,q*(a0c B32 vs/B32^(vs.length - 1))+r=ldW B32 (a0c B32 vs) u0 j/B32^(vs.length - 1)->ldW B32 (a0c B32 vs) u0 j/a0c B32 vs<=q->r<4294967296->4294967296 - r<=w->w<k->q<=18446744073709551615->
  loopP (P.b3w g) k ((q:Int),(((a0c B32 vs/B32^(vs.length - 2)%B32:Nat):Int),((r:Int),(ldU B32 (a0c B32 vs) u0 (j+1),(((j+vs.length:Nat):Int),(((a0c B32 vs/B32^(vs.length - 1):Nat):Int),((j:Int),(vs,(ldQ B32 (a0c B32 vs) u0 m (j+1),(sh,()))))))))))=F:=by
 have hV:0<a0c B32 vs:=Nat.lt_of_lt_of_le (Nat.pow_pos (by decide)) hlo;have hhi:=a1n hv;have hU:=f4w a0e hV h0 (show j<u0.length by omega);have win:=f2t a0e hn2 hlo hhi hU;have htail:=fun q hq h1 h2 q' hq'=>h1b g F h0 hv hN hbig hj hV hg q hq h1 h2 q' hq'
 have g3:=d7i a0e hV h0 hN hj hhi (i:=vs.length - 2) (by omega);have hsl:(ldU B32 (a0c B32 vs) u0 (j+1)).length=m+vs.length:=by unfold ldU;rw[List.length_append,a3c,List.length_take];omega
 have hv1B:a0c B32 vs/B32^(vs.length - 1)<4294967296:=by
  have:a0c B32 vs/B32^(vs.length - 1)<B32:=by
   rw[Nat.div_lt_iff_lt_mul (Nat.pow_pos (by decide)),Nat.mul_comm,<-Nat.pow_succ,show(vs.length - 1).succ=vs.length by omega];exact hhi
  exact this
 have hv1:=win.hv1;generalize hX:ldW B32 (a0c B32 vs) u0 j/B32^(vs.length - 1)=X at*;generalize hv1e:a0c B32 vs/B32^(vs.length - 1)=v1 at*;have hv2B:a0c B32 vs/B32^(vs.length - 2)%B32<4294967296:=win.hv2;have hu2B:ldW B32 (a0c B32 vs) u0 j/B32^(vs.length - 2)%B32<4294967296:=win.hu2;generalize hv2e:a0c B32 vs/B32^(vs.length - 2)%B32=v2 at*;generalize hu2e:ldW B32 (a0c B32 vs) u0 j/B32^(vs.length - 2)%B32=u2 at*
 induction w with
 |zero=>intro q r k _ _ hr hw;omega
 |succ w ih=>
  intro q r k e hq hr hw hk hqb;obtain⟨k,rfl⟩:∃k',k=k'+1:=⟨k - 1,by omega⟩
  rw[a0j];unfold P.b3w;dsimp only;have c5:(0:Int)<=((j+vs.length:Nat):Int) - 2:=by omega
  have c6:((j+vs.length:Nat):Int) - 2<((m+vs.length:Nat):Int):=by omega
  have hwl:((m+vs.length:Nat):Int)=((List.length (ldU B32 (a0c B32 vs) u0 (j+1)):Nat):Int):=by rw[hsl]
  rw[hwl]at c6;have hstep:ldW B32 (a0c B32 vs) u0 j/a0c B32 vs<q->((r:Int)+(v1:Int)>=4294967296->(q - 1)<4294967296/\ldW B32 (a0c B32 vs) u0 j/a0c B32 vs<=q - 1/\(q - 1)*a0c B32 vs<ldW B32 (a0c B32 vs) u0 j+a0c B32 vs/\IntKind.wrap .u64 ((q:Int) - 1)=((q - 1:Nat):Int))/\(¬((r:Int)+(v1:Int)>=4294967296)->loopP (P.b3w g) k (IntKind.wrap .u64 ((q:Int) - 1),((v2:Int),((r:Int)+(v1:Int),(ldU B32 (a0c B32 vs) u0 (j+1),(((j+vs.length:Nat):Int),((v1:Int),((j:Int),(vs,(ldQ B32 (a0c B32 vs) u0 m (j+1),(sh,()))))))))))=F):=by
   intro hlt;have hq1:1<=q:=Nat.lt_of_le_of_lt (Nat.zero_le _) hlt;have eq1:IntKind.wrap .u64 ((q:Int) - 1)=((q - 1:Nat):Int):=by
    rw[wu (by omega) (by omega)];omega
   have e':(q - 1)*v1+(r+v1)=X:=by
    obtain⟨p,rfl⟩:∃p,q=p+1:=⟨q - 1,by omega⟩
    rw[Nat.add_mul,Nat.one_mul]at e;rw[Nat.add_sub_cancel];omega
   constructor
   ·intro hge;have hd:=win.done e' (.inr (show(4294967296:Nat)<=r+v1 by omega));exact⟨hd.1,by omega,hd.2,eq1⟩
   ·intro hge;rw[eq1,<-Int.natCast_add];exact ih (q - 1) (r+v1) k e' (by omega) (by omega) (by omega) (by omega) (by omega)
  rw[wu (x:=(r:Int)+(v1:Int)) (by omega) (by omega)]
  by_cases b1:q>=4294967296
  ·rw[if_pos (decide_eq_true (show(q:Int)>=4294967296 by omega))];obtain⟨s1,s2⟩:=hstep (win.down e hq (.inl b1))
   by_cases b2:(r:Int)+(v1:Int)>=4294967296
   ·rw[if_pos (decide_eq_true b2)];obtain⟨t1,t2,t3,t4⟩:=s1 b2;exact htail (q - 1) t1 t2 t3 _ t4
   ·rw[if_neg (by simpa using b2)];exact s2 b2
  ·rw[if_neg (by simp;omega)];rw[wr (x:=((j+vs.length:Nat):Int) - 2) (by omega) (by omega),if_pos (decide_eq_true c5),if_pos (decide_eq_true c6),show 0+(((j+vs.length:Nat):Int) - 2).toNat=j+(vs.length - 2) by omega,g3];have hqv:q*v2<=4294967295*4294967295:=Nat.mul_le_mul (by omega) (by omega);rw[<-Int.natCast_mul,wu (x:=((q*v2:Nat):Int)) (by omega) (by omega),wu (x:=(r:Int)*4294967296) (by omega) (by omega),wu (x:=(u2:Int)) (by omega) (by omega),wu (x:=(r:Int)*4294967296+(u2:Int)) (by omega) (by omega)]
   by_cases b3:q*v2>r*4294967296+u2
   ·rw[if_pos (decide_eq_true (show((q*v2:Nat):Int)>(r:Int)*4294967296+(u2:Int) by omega))];obtain⟨s1,s2⟩:=hstep (win.down e hq (.inr b3))
    by_cases b2:(r:Int)+(v1:Int)>=4294967296
    ·rw[if_pos (decide_eq_true b2)];obtain⟨t1,t2,t3,t4⟩:=s1 b2;exact htail (q - 1) t1 t2 t3 _ t4
    ·rw[if_neg (by simpa using b2)];exact s2 b2
   ·rw[if_neg (by simp;omega)];have hd:=win.done e (.inl ⟨show q<B32 by show q<4294967296;omega,show q*v2<=r*B32+u2 by show q*v2<=r*4294967296+u2;omega⟩);exact htail q hd.1 hq hd.2 _ rfl
theorem h1c {R sh:Nat} {qs:List Int} {n:Nat} (hn:(nd B32 R).length=n) (hsh:sh<=31) (hb:n<=1000000000) (hq:dig B32 qs=true) (hql:qs.length<=1000000000) (k:Nat) (hk:n<k):
  loopP P.a9z k ((0:Int),((n:Int),(nd B32 R,((sh:Int),(qs,())))))=some ((nd B32 (a0c B32 qs),nd B32 (R/2^sh)),()):=by
 have hRn:R<B32^n:=(a4l a0e R n).1 (by omega);have hpow:0<2^sh:=Nat.pow_pos (by decide);have hndfd:nd B32 R=fd B32 n R:=by
  have:=c6e (B:=B32) (by decide) (a3z a0e R);rw[hn,a0i a0e]at this;exact this.symm
 have key:=a0f (k:=k) (b:=P.a9z) (n:=n) (st:=fun i=>((i:Int),(n:Int),fd B32 i (R/2^sh)++fd B32 (n - i) (R/B32^i),(sh:Int),qs,())) (F:=fun i=>some ((nd B32 (a0c B32 qs),nd B32 (R/2^sh)),())) (fun i g hi hg=>by
  unfold P.a9z;dsimp only at hg ⊢;refine Eq.trans ?_ hg;clear hg;have hlen:(fd B32 i (R/2^sh)++fd B32 (n - i) (R/B32^i)).length=n:=by rw[List.length_append,a3c,a3c];omega
  have hfl:(fd B32 i (R/2^sh)).length=i:=a3c _ _ _;have e1:(i:Int)<(n:Int):=by omega
  have e2:(0:Int)<=(i:Int):=by omega
  have e3:¬((sh:Int)<0):=by omega
  have e4:(0:Int)<=(i:Int)+1:=by omega
  have emin:Min.min sh 64=sh:=by omega
  have ep:((2:Int)^sh)=((2^sh:Nat):Int):=by rw[Int.natCast_pow];rfl
  rw[hlen,wr (x:=(i:Int)+1) (by omega) (by omega)];simp only[e1,e2,e3,e4,decide_true,decide_false,if_true,if_false,Bool.false_eq_true,Nat.zero_add,Int.toNat_natCast];rw[emin,ep];have hsplit:fd B32 (n - i) (R/B32^i)=((R/B32^i%B32:Nat):Int)::fd B32 (n - (i+1)) (R/B32^(i+1)):=by
   rw[show n - i=(n - (i+1))+1 by omega,fd,Nat.div_div_eq_div_mul,Nat.pow_succ]
  rw[hsplit];simp only[b3e hfl,b1g hfl];have hx:R/B32^i%B32<4294967296:=Nat.mod_lt _ (by decide);have hy:R/B32^(i+1)%B32<4294967296:=Nat.mod_lt _ (by decide);have hval:∀Y:Nat,Y=R/B32^(i+1)%B32->IntKind.wrap .u32 (Int.fdiv (((Y*4294967296+R/B32^i%B32:Nat):Int)) ((2^sh:Nat):Int))=((R/2^sh/B32^i%B32:Nat):Int):=by
   intro Y hY;rw[Int.fdiv_eq_ediv_of_nonneg _ (by omega),<-Int.natCast_ediv,c3u];have e5:∀z:Nat,((z:Nat):Int)%4294967296=((z%B32:Nat):Int):=by
    intro z;show _=((z%4294967296:Nat):Int)
    omega
   rw[e5];congr 1;have e6:Y*4294967296+R/B32^i%B32=R/B32^i%(B32*B32):=by
    rw[hY,Nat.mod_mul,Nat.div_div_eq_div_mul,<-Nat.pow_succ,Nat.add_comm,Nat.mul_comm]
   have e7:R/2^sh/B32^i=R/B32^i/2^sh:=by rw[Nat.div_div_eq_div_mul,Nat.div_div_eq_div_mul,Nat.mul_comm]
   have e8:B32*B32=2^sh*(B32*2^(32 - sh)):=by
    have:B32=2^sh*2^(32 - sh):=by rw[<-Nat.pow_add,show sh+(32 - sh)=32 by omega]
    calc B32*B32=2^sh*2^(32 - sh)*B32:=by rw[<-this]
     _=2^sh*(B32*2^(32 - sh)):=by ac_rfl
   rw[e6,e7,e8,Nat.mod_mul_right_div_self,Nat.mod_mul_right_mod]
  by_cases hj:(i:Int)+1<(n:Int)
  ·have hj':fd B32 (n - (i+1)) (R/B32^(i+1))=((R/B32^(i+1)%B32:Nat):Int)::fd B32 (n - (i+1) - 1) (R/B32^(i+1)/B32):=by
    conv=>lhs;rw[show n - (i+1)=(n - (i+1) - 1)+1 by omega,fd]
   have hg2:(fd B32 i (R/2^sh)++((R/B32^i%B32:Nat):Int)::fd B32 (n - (i+1)) (R/B32^(i+1))).getD ((i:Int)+1).toNat 0=((R/B32^(i+1)%B32:Nat):Int):=by
    rw[hj',show((i:Int)+1).toNat=i+1 by omega,List.append_cons];exact b1g (by rw[List.length_append,hfl];rfl)
   rw[if_pos (decide_eq_true hj),if_pos (decide_eq_true hj),hg2];rw[wu (x:=((R/B32^(i+1)%B32:Nat):Int)) (by omega) (by omega),wu (x:=((R/B32^(i+1)%B32:Nat):Int)*4294967296) (by omega) (by omega),wu (x:=((R/B32^i%B32:Nat):Int)) (by omega) (by omega),wu (x:=((R/B32^(i+1)%B32:Nat):Int)*4294967296+((R/B32^i%B32:Nat):Int)) (by omega) (by omega),show((R/B32^(i+1)%B32:Nat):Int)*4294967296+((R/B32^i%B32:Nat):Int)=((R/B32^(i+1)%B32*4294967296+R/B32^i%B32:Nat):Int) by omega,hval _ rfl,<-e9j];rfl
  ·rw[if_neg (by simpa using hj)];have hn1:n=i+1:=by omega
   have h0:0=R/B32^(i+1)%B32:=by rw[<-hn1,Nat.div_eq_of_lt hRn,Nat.zero_mod]
   rw[wu (x:=((R/B32^i%B32:Nat):Int)) (by omega) (by omega),wu (x:=0+((R/B32^i%B32:Nat):Int)) (by omega) (by omega),show 0+((R/B32^i%B32:Nat):Int)=((0*4294967296+R/B32^i%B32:Nat):Int) by omega,hval 0 h0,<-e9j];rfl) (fun g=>by
  unfold P.a9z;dsimp only;have hRs:R/2^sh<B32^n:=Nat.lt_of_le_of_lt (Nat.div_le_self _ _) hRn;have hl1:qs.length<=1000000000000:=by omega
  have hfl:(fd B32 n (R/2^sh)).length=n:=a3c _ _ _;have hl2:(fd B32 n (R/2^sh)).length<=1000000000000:=by omega
  rw[if_neg (by simp),Nat.sub_self,show fd B32 0 (R/B32^n)=[]from rfl,List.append_nil,if_pos (decide_eq_true hl1),if_pos (decide_eq_true hl2),d1i a0e _ _ rfl hq,d1i a0e _ _ rfl (b5u (by decide) _ _),f4u a0e hRs]) hk
 rw[show fd B32 0 (R/2^sh)++fd B32 (n - 0) (R/B32^0)=nd B32 R by rw[hndfd,Nat.pow_zero,Nat.div_one];rfl]at key;exact key
theorem g5q {u0 vs:List Int} {m sh:Nat}
  (h0:dig B32 u0=true) (hv:dig B32 vs=true) (hN:u0.length=m+vs.length) (hbig:u0.length<=1000000000) (hn2:2<=vs.length) (hlo:B32^(vs.length - 1)<=a0c B32 vs) (hsh:sh<=31) (ht:a0c B32 (u0.drop m)<a0c B32 vs) (k:Nat) (hk:k=u0.length+4294967310):
  loopP (P.b0a k) k ((m:Int) - 1,(vs,(u0,(((a0c B32 vs/B32^(vs.length - 1):Nat):Int),(((a0c B32 vs/B32^(vs.length - 2)%B32:Nat):Int),(List.replicate m 0,((sh:Int),())))))))=some ((nd B32 (a0c B32 u0/a0c B32 vs),nd B32 (a0c B32 u0%a0c B32 vs/2^sh)),()):=by
 have hV:0<a0c B32 vs:=Nat.lt_of_lt_of_le (Nat.pow_pos (by decide)) hlo;have hhi:=a1n hv;obtain⟨f1,f2⟩:=f2s a0e hV h0 (show m<=u0.length by omega) ht;have key:=a0f (k:=k) (b:=P.b0a k) (n:=m) (st:=fun i=>((m:Int) - 1 - (i:Int),vs,ldU B32 (a0c B32 vs) u0 (m - i),((a0c B32 vs/B32^(vs.length - 1):Nat):Int),((a0c B32 vs/B32^(vs.length - 2)%B32:Nat):Int),ldQ B32 (a0c B32 vs) u0 m (m - i),(sh:Int),())) (F:=fun i=>some ((nd B32 (a0c B32 u0/a0c B32 vs),nd B32 (a0c B32 u0%a0c B32 vs/2^sh)),())) (fun i g hi hg=>by
  unfold P.b0a;dsimp only at hg ⊢;obtain⟨j,hj⟩:∃j,m - i=j+1:=⟨m - i - 1,by omega⟩
  have hjm:j<m:=by omega
  rw[show m - (i+1)=j by omega,show(m:Int) - 1 - ((i+1:Nat):Int)=(j:Int) - 1 by omega]at hg;rw[hj,show(m:Int) - 1 - (i:Int)=(j:Int) by omega];have hU:=f4w a0e hV h0 (show j<u0.length by omega);have win:=f2t a0e hn2 hlo hhi hU;have g3:=d7i a0e hV h0 hN hjm hhi (i:=vs.length) (by omega);have g4:=d7i a0e hV h0 hN hjm hhi (i:=vs.length - 1) (by omega);have hsl:(ldU B32 (a0c B32 vs) u0 (j+1)).length=m+vs.length:=by unfold ldU;rw[List.length_append,a3c,List.length_take];omega
  have hv1B:a0c B32 vs/B32^(vs.length - 1)<4294967296:=by
   have:a0c B32 vs/B32^(vs.length - 1)<B32:=by
    rw[Nat.div_lt_iff_lt_mul (Nat.pow_pos (by decide)),Nat.mul_comm,<-Nat.pow_succ,show(vs.length - 1).succ=vs.length by omega];exact hhi
   exact this
  have hv1:=win.hv1;have hxlt:=win.xlt;have hstart:=win.start;have hUl:=d1h a0e hV h0 hN hjm hhi;have hinner:=g5p g _ h0 hv hN hbig hjm hn2 hlo hg 4294967296;have hXe:ldW B32 (a0c B32 vs) u0 j/B32^vs.length%B32*4294967296+ldW B32 (a0c B32 vs) u0 j/B32^(vs.length - 1)%B32=ldW B32 (a0c B32 vs) u0 j/B32^(vs.length - 1):=by
   have hq:ldW B32 (a0c B32 vs) u0 j/B32^vs.length<B32:=by
    rw[Nat.div_lt_iff_lt_mul (Nat.pow_pos (by decide)),Nat.mul_comm,<-Nat.pow_succ];exact hUl
   rw[Nat.mod_eq_of_lt hq];have e:B32^vs.length=B32^(vs.length - 1)*B32:=by rw[<-Nat.pow_succ];congr 1;omega
   rw[e,<-Nat.div_div_eq_div_mul,Nat.mul_comm];exact Nat.div_add_mod _ _
  have hu1:ldW B32 (a0c B32 vs) u0 j/B32^vs.length%B32<4294967296:=Nat.mod_lt _ (by decide);have hu0:ldW B32 (a0c B32 vs) u0 j/B32^(vs.length - 1)%B32<4294967296:=Nat.mod_lt _ (by decide);generalize hX:ldW B32 (a0c B32 vs) u0 j/B32^(vs.length - 1)=X at*;generalize hv1e:a0c B32 vs/B32^(vs.length - 1)=v1 at*;generalize ldW B32 (a0c B32 vs) u0 j/B32^vs.length%B32=ua at*;generalize X%B32=ub at*;have c0:(j:Int)>=0:=by omega
  have c1:(0:Int)<=((j+vs.length:Nat):Int):=by omega
  have c2:((j+vs.length:Nat):Int)<((m+vs.length:Nat):Int):=by omega
  have c3:(0:Int)<=((j+vs.length:Nat):Int) - 1:=by omega
  have c4:((j+vs.length:Nat):Int) - 1<((m+vs.length:Nat):Int):=by omega
  have c7:¬((v1:Int)=0):=by omega
  rw[hsl,<-Int.natCast_add j,wr (x:=((j+vs.length:Nat):Int)) (by omega) (by omega),wr (x:=((j+vs.length:Nat):Int) - 1) (by omega) (by omega)];simp only[c0,c1,c2,c3,c4,c7,decide_true,decide_false,if_true,if_false,Bool.false_eq_true];rw[show 0+(((j+vs.length:Nat):Int)).toNat=j+vs.length by omega,show 0+(((j+vs.length:Nat):Int) - 1).toNat=j+(vs.length - 1) by omega,g3,g4];rw[wu (x:=(ua:Int)) (by omega) (by omega),wu (x:=(ub:Int)) (by omega) (by omega),wu (x:=(ua:Int)*4294967296) (by omega) (by omega),wu (x:=(ua:Int)*4294967296+(ub:Int)) (by omega) (by omega),show(ua:Int)*4294967296+(ub:Int)=(X:Int) by omega,Int.tdiv_eq_ediv_of_nonneg (by omega),Int.tmod_eq_emod_of_nonneg (by omega),<-Int.natCast_ediv,<-Int.natCast_emod];have hX18:X<=18446744073709551615:=by omega
  have hXd:X/v1<=X:=Nat.div_le_self _ _;have hml:=Nat.mod_lt X hv1;have hdm:X/v1*v1+X%v1=X:=by rw[Nat.mul_comm];exact Nat.div_add_mod _ _
  generalize X/v1=qq at*;generalize X%v1=rr at*;rw[wu (x:=(qq:Int)) (by omega) (by omega)];exact hinner qq rr k hdm hstart (by omega) (by omega) (by omega) (by omega)) (fun g=>by
  unfold P.b0a;dsimp only;rw[if_neg (by simp;omega),Nat.sub_self];have hVN:a0c B32 vs<=B32^u0.length:=Nat.le_trans (Nat.le_of_lt hhi) (Nat.pow_le_pow_right (by decide) (by omega));obtain⟨l1,l2,l3,l4,l5,l6⟩:=f8s a0e hV h0 (show m<=u0.length by omega) ht hVN;have hul:(nd B32 (a0c B32 u0%a0c B32 vs)).length<=u0.length:=by
   rw[a4l a0e,<-l1,<-l5];exact a1n l3
  have hl1:(ldU B32 (a0c B32 vs) u0 0).length<=1000000000000:=by omega
  rw[if_pos (decide_eq_true hl1),d1i a0e _ _ rfl l3,l1,h1c rfl hsh (by omega) l4 (by omega) k (by omega),l2]) (by omega)
 rw[Nat.sub_zero,f1,f2]at key;rw[<-key,show(m:Int) - 1 - ((0:Nat):Int)=(m:Int) - 1 by omega]
def S.a5a (x:((List Int)×((List Int)×Unit))):(Option (((List Int)×(List Int))×Unit)):=if a2r B32 x.1=true/\a2r B32 x.2.1=true/\x.2.1≠ []/\x.1.length<=100000000/\x.2.1.length<=100000000 then some ((nd B32 (a0c B32 x.1/a0c B32 x.2.1),nd B32 (a0c B32 x.1%a0c B32 x.2.1)),())else none
theorem S.e6w (x r) (h:S.a5a x=some r):∃k,P.d3t k x=some r:=by
 obtain⟨as,bs,u⟩:=x;unfold S.a5a at h;dsimp only at h;split at h
 case isFalse=>cases h
 rename_i hc;obtain⟨ca,cb,hne,la,lb⟩:=hc;cases h;have da:=a1q ca;have db:=a1q cb;have hbpos:0<bs.length:=List.length_pos_iff.2 hne;have hb0:a0c B32 bs≠0:=by
  intro q;have:=a1d cb;rw[q,a1t a0e]at this;exact hne this.symm
 have hlow:=e4h a0e hb0;rw[a1d cb]at hlow;have hhib:=a1n db;have hhia:=a1n da;have sc:S.a1k (as,(bs,()))=some (b1d (a0c B32 as) (a0c B32 bs),()):=by
  unfold S.a1k;exact if_pos ⟨ca,cb,by dsimp only;omega⟩
 refine⟨(as.length+1)+4294967310,?_⟩;unfold P.d3t;dsimp only;rw[sc,Option.bind_some];dsimp only
 by_cases hlt:a0c B32 as<a0c B32 bs
 ·rw[if_pos (decide_eq_true (c2j.2 hlt)),Nat.div_eq_of_lt hlt,Nat.mod_eq_of_lt hlt,a1t a0e,a1d ca]
 ·rw[if_neg (by simpa [c2j]using hlt)]
  by_cases h1:bs.length=1
  ·obtain⟨b0,rfl⟩:∃b0,bs=[b0]:=by
    match bs,h1 with
    | [b0],_=>exact⟨b0,rfl⟩
   rw[if_pos (by rfl),if_pos (by rfl)];have hb:a0c B32 [b0]=b0.toNat:=by simp [a0c]
   have hbd:=(a2k _ _).1 db;have hbd1:b0<4294967296:=hbd.1.2;rw[hb]at hb0 ⊢;show Option.bind (S.a2y (as,(b0,()))) _=_;unfold S.a2y;dsimp only;have hm:=Nat.mod_lt (a0c B32 as) (show 0<b0.toNat by omega);rw[if_pos ⟨da,by omega,by omega,by omega⟩,Option.bind_some];dsimp only;generalize a0c B32 as%b0.toNat=M at*;have hone:dig B32 [(M:Int)]=true:=by
    rw[a2k];refine⟨⟨by omega,?_⟩,rfl⟩;show(M:Int)<4294967296;omega
   have ht:=d1i a0e 1 [(M:Int)] rfl hone;rw[show a0c B32 [(M:Int)]=M by simp [a0c]]at ht;rw[if_pos (by rfl),<-ht];rfl
  ·rw[if_neg (by simp;omega)];have hn2:2<=bs.length:=by omega
   have c1:(0:Int)<=(bs.length:Int) - 1:=by omega
   have c2:(bs.length:Int) - 1<(bs.length:Int):=by omega
   have hbtB:a0c B32 bs/B32^(bs.length - 1)<4294967296:=by
    have:a0c B32 bs/B32^(bs.length - 1)<B32:=by
     rw[Nat.div_lt_iff_lt_mul (Nat.pow_pos (by decide)),Nat.mul_comm,<-Nat.pow_succ,show(bs.length - 1).succ=bs.length by omega];exact hhib
    exact this
   have hbt0:0<a0c B32 bs/B32^(bs.length - 1):=Nat.div_pos hlow (Nat.pow_pos (by decide));have g1:=c2i a0e db (i:=bs.length - 1) (by omega);rw[show a0c B32 bs/B32^(bs.length - 1)%B32=a0c B32 bs/B32^(bs.length - 1)from Nat.mod_eq_of_lt hbtB]at g1;have hbt1:a0c B32 bs<(a0c B32 bs/B32^(bs.length - 1)+1)*B32^(bs.length - 1):=by
    have:=Nat.lt_div_mul_add (show 0<B32^(bs.length - 1)from Nat.pow_pos (by decide)) (a:=a0c B32 bs);rw[Nat.add_mul,Nat.one_mul];exact this
   generalize hbt:a0c B32 bs/B32^(bs.length - 1)=bt at*;rw[wr (x:=(bs.length:Int) - 1) (by omega) (by omega),if_pos (decide_eq_true c1),if_pos (decide_eq_true c2),show((bs.length:Int) - 1).toNat=bs.length - 1 by omega,g1];unfold S.a3h;dsimp only;rw[if_pos ⟨by omega,by omega⟩,Option.bind_some,Int.toNat_natCast];dsimp only;obtain⟨b1,b2,b3⟩:=Go.Lib.bitLenAux_bounds 64 bt (by omega) (by omega);have hL32:Go.Lib.bitLen bt<=32:=Go.Lib.bitLen_le bt 32 (by decide) (by omega);have hL:Go.Lib.bitLen bt=Go.Lib.bitLenAux 64 bt:=rfl;rw[<-hL]at b1 b2 b3;generalize Go.Lib.bitLen bt=L at*;obtain⟨sh,hsh⟩:∃sh:Nat,sh=32 - L:=⟨_,rfl⟩
   have hsh1:sh<=31:=by omega
   have hsI:(32:Int) - (L:Int)=(sh:Int):=by omega
   rw[hsI];have hpow:0<2^sh:=Nat.pow_pos (by decide);have hd2:(bt+1)*2^sh<=B32:=by
    have h3:(bt+1)*2^sh<=2^L*2^sh:=Nat.mul_le_mul_right _ b3;rw[<-Nat.pow_add,show L+sh=32 by omega]at h3;exact h3
   have m1:S.a3r (as,((sh:Int),()))=some (fd B32 (as.length+1) (a0c B32 as*2^sh),()):=by
    unfold S.a3r;exact if_pos ⟨da,by dsimp only;omega,by dsimp only;omega,by dsimp only;omega⟩
   have m2:S.a3r (bs,((sh:Int),()))=some (fd B32 (bs.length+1) (a0c B32 bs*2^sh),()):=by
    unfold S.a3r;exact if_pos ⟨db,by dsimp only;omega,by dsimp only;omega,by dsimp only;omega⟩
   rw[m1,Option.bind_some,m2,Option.bind_some];dsimp only;have hvhi:a0c B32 bs*2^sh<B32^bs.length:=by
    have h3:a0c B32 bs*2^sh<(bt+1)*B32^(bs.length - 1)*2^sh:=Nat.mul_lt_mul_of_pos_right hbt1 hpow;have h4:(bt+1)*B32^(bs.length - 1)*2^sh=(bt+1)*2^sh*B32^(bs.length - 1):=by ac_rfl
    have h5:(bt+1)*2^sh*B32^(bs.length - 1)<=B32*B32^(bs.length - 1):=Nat.mul_le_mul_right _ hd2;have h6:B32*B32^(bs.length - 1)=B32^bs.length:=by rw[Nat.mul_comm,<-Nat.pow_succ];congr 1;omega
    omega
   have hvlo:B32^(bs.length - 1)<=a0c B32 bs*2^sh:=Nat.le_trans hlow (Nat.le_mul_of_pos_right _ hpow);have hvl:(nd B32 (a0c B32 bs*2^sh)).length=bs.length:=by
    have h3:=(a4l a0e (a0c B32 bs*2^sh) bs.length).2 hvhi;have h4:=a4l a0e (a0c B32 bs*2^sh) (bs.length - 1);have h5:¬(nd B32 (a0c B32 bs*2^sh)).length<=bs.length - 1:=by
     rw[h4];omega
    omega
   have hahi:a0c B32 as*2^sh<B32^(as.length+1):=by
    have h3:2^sh<=B32:=Nat.le_trans (Nat.pow_le_pow_right (by decide) hsh1) (by decide);rw[Nat.pow_succ];exact Nat.lt_of_lt_of_le (Nat.mul_lt_mul_of_pos_right hhia hpow) (Nat.mul_le_mul_left _ h3)
   have hab:bs.length<=as.length:=by
    rcases Nat.lt_or_ge as.length bs.length with g|g
    ·have:=b1e a0e ca cb g;omega
    ·exact g
   have htr:List.take (List.length (List.dropWhile (fun y:Int=>(y==(0:Int))) (List.reverseAux (fd B32 (bs.length+1) (a0c B32 bs*2^sh)) ([]:List Int)))) (fd B32 (bs.length+1) (a0c B32 bs*2^sh))=nd B32 (a0c B32 bs*2^sh):=by
    rw[d1i a0e _ _ rfl (b5u (by decide) _ _),f4u a0e (Nat.lt_of_lt_of_le hvhi (Nat.pow_le_pow_right (by decide) (by omega)))]
   rw[htr,a3c,a3c];have hdw:a0c B32 (nd B32 (a0c B32 bs*2^sh))=a0c B32 bs*2^sh:=a0i a0e _;have hdv':=a3z a0e (a0c B32 bs*2^sh);have hu0:a0c B32 (fd B32 (as.length+1) (a0c B32 as*2^sh))=a0c B32 as*2^sh:=by rw[b7y,Nat.mod_eq_of_lt hahi]
   have hul:(fd B32 (as.length+1) (a0c B32 as*2^sh)).length=as.length+1:=a3c _ _ _;have hud:dig B32 (fd B32 (as.length+1) (a0c B32 as*2^sh))=true:=b5u (by decide) _ _;generalize nd B32 (a0c B32 bs*2^sh)=vs at*;generalize fd B32 (as.length+1) (a0c B32 as*2^sh)=u0 at*;have ht:a0c B32 (u0.drop (as.length+1 - bs.length))<a0c B32 bs*2^sh:=g7q (n:=vs.length) a0e hud hu0 hpow (by omega) (by rw[show as.length+1 - bs.length+vs.length - 1=as.length by omega];exact hhia) (by omega) (by rw[hvl];exact hlow);have hmain:=g5q (m:=as.length+1 - bs.length) (sh:=sh) hud hdv' (by omega) (by omega) (by omega) (by rw[hvl,hdw];exact hvlo) hsh1 (by rw[hdw];exact ht) ((as.length+1)+4294967310) (by omega);have g2:=c2i a0e hdv' (i:=vs.length - 1) (by omega);have g3:=c2i a0e hdv' (i:=vs.length - 2) (by omega);have hv1B:a0c B32 vs/B32^(vs.length - 1)<4294967296:=by
    have:a0c B32 vs/B32^(vs.length - 1)<B32:=by
     rw[Nat.div_lt_iff_lt_mul (Nat.pow_pos (by decide)),Nat.mul_comm,<-Nat.pow_succ,show(vs.length - 1).succ=vs.length by omega];exact a1n hdv'
    exact this
   rw[show a0c B32 vs/B32^(vs.length - 1)%B32=a0c B32 vs/B32^(vs.length - 1)from Nat.mod_eq_of_lt hv1B]at g2;have hv2B:a0c B32 vs/B32^(vs.length - 2)%B32<4294967296:=Nat.mod_lt _ (by decide);generalize a0c B32 vs/B32^(vs.length - 1)=v1 at*;generalize a0c B32 vs/B32^(vs.length - 2)%B32=v2 at*;have e9:(((as.length+1:Nat):Int) - (vs.length:Int))=((as.length+1 - bs.length:Nat):Int):=by omega
   have c3:(bs.length+1)<=1000000000000:=by omega
   have c4:(0:Int)<=(vs.length:Int) - 1:=by omega
   have c5:(vs.length:Int) - 1<(vs.length:Int):=by omega
   have c6:(0:Int)<=(vs.length:Int) - 2:=by omega
   have c7:(vs.length:Int) - 2<(vs.length:Int):=by omega
   have c8:(0:Int)<=((as.length+1 - bs.length:Nat):Int):=by omega
   have c9:((as.length+1 - bs.length:Nat):Int)*4<=281474976710656:=by omega
   rw[e9,wr (x:=((as.length+1 - bs.length:Nat):Int)) (by omega) (by omega),wr (x:=(vs.length:Int) - 1) (by omega) (by omega),wr (x:=(vs.length:Int) - 2) (by omega) (by omega)];simp only[c3,c4,c5,c6,c7,c8,c9,decide_true,if_true,Int.le_refl,Int.toNat_natCast,List.length_replicate,Nat.zero_add];rw[show((vs.length:Int) - 1).toNat=vs.length - 1 by omega,show((vs.length:Int) - 2).toNat=vs.length - 2 by omega,g2,g3,wu (x:=(v1:Int)) (by omega) (by omega),wu (x:=(v2:Int)) (by omega) (by omega),wr (x:=((as.length+1 - bs.length:Nat):Int) - 1) (by omega) (by omega),hmain,hu0,hdw,Nat.mul_div_mul_right _ _ hpow,Nat.mul_mod_mul_right,Nat.mul_div_cancel _ hpow]
abbrev i_nat_gcd.A:=Option (List Int×Unit)
abbrev P.c0i (x6:Int×Int×Unit) (g7:Int×Int×Unit->i_nat_gcd.A):i_nat_gcd.A:=
 if decide (x6.1>0)then if decide (x6.1=0)then none else g7 (Int.tmod x6.2.1 x6.1,x6.1,())else(S.a3d (x6.2.1,())).bind fun y8=>some (y8.1,())
abbrev P.b6b (k:Nat) (x1:List Int×List Int×Unit) (g2:List Int×List Int×Unit->i_nat_gcd.A):i_nat_gcd.A:=
 if decide ((x1.1.length:Int)>0)then(S.a5k (x1.2.1,())).bind fun y3=>(S.a5k (x1.1,())).bind fun y4=>if y3.1.2 then if y4.1.2 then loopP P.c0i k (y4.1.1,y3.1.1,())else(S.a5a (x1.2.1,x1.1,())).bind fun y9=>g2 (y9.1.2,x1.1,())else(S.a5a (x1.2.1,x1.1,())).bind fun y10=>g2 (y10.1.2,x1.1,())else some (x1.2.1,())
def P.d3u (k:Nat) (x:List Int×List Int×Unit):i_nat_gcd.A:=
 loopP (P.b6b k) k (x.2.1,x.1,())
theorem e6x {B:Nat} (hB:2<=B) {xs:List Int} (h:a2r B xs=true) (hn:xs≠ []):a0c B xs≠0:=by
 intro q;have:=a1d h;rw[q,a1t hB]at this;exact hn this.symm
theorem f6g {B:Nat} (hB:2<=B) {m n:Nat} (h:m<=n):(nd B m).length<=(nd B n).length:=by
 rw[a4l hB];exact Nat.lt_of_le_of_lt h ((a4l hB n _).1 (Nat.le_refl _))
theorem g5r (n:Nat):∀(x y:Nat) (k:Nat),y<=n->n<k->x<18446744073709551616->y<18446744073709551616->loopP P.c0i k ((y:Int),((x:Int),()))=some (nd B32 (Nat.gcd x y),()):=by
 induction n using Nat.strongRecOn with
 |ind n ih=>
  intro x y k hn hk hx hy;obtain⟨k,rfl⟩:∃j,k=j+1:=⟨k - 1,by omega⟩
  rw[a0j];unfold P.c0i;dsimp only
  by_cases hb:y=0
  ·subst hb;rw[if_neg (by simp),Nat.gcd_zero_right];unfold S.a3d;dsimp only;rw[if_pos ⟨by omega,by omega⟩,Option.bind_some,Int.toNat_natCast]
  ·have hm:=Nat.mod_lt x (show 0<y by omega);have c1:(y:Int)>0:=by omega
   have c2:¬((y:Int)=0):=by omega
   rw[if_pos (decide_eq_true c1),if_neg (by simpa using hb),Int.tmod_eq_emod_of_nonneg (by omega),<-Int.natCast_emod,ih (x%y) (by omega) y (x%y) k (Nat.le_refl _) (by omega) hy (by omega),d9t]
theorem h1d (K n:Nat):∀(as bs:List Int) (k:Nat),a2r B32 as=true->a2r B32 bs=true->as.length<=100000000->bs.length<=100000000->a0c B32 bs<=n->n<k->n<K->loopP (P.b6b K) k (bs,(as,()))=some (nd B32 (Nat.gcd (a0c B32 as) (a0c B32 bs)),()):=by
 induction n using Nat.strongRecOn with
 |ind n ih=>
  intro as bs k ca cb la lb hn hk hK;obtain⟨k,rfl⟩:∃j,k=j+1:=⟨k - 1,by omega⟩
  rw[a0j];unfold P.b6b;dsimp only
  by_cases hb:bs=[]
  ·subst hb;rw[if_neg (by simp),show a0c B32 []=0 from rfl,Nat.gcd_zero_right,a1d ca]
  ·have hpos:0<bs.length:=List.length_pos_iff.2 hb;have hb0:=e6x a0e cb hb;have hm:=Nat.mod_lt (a0c B32 as) (show 0<a0c B32 bs by omega);have hc:(bs.length:Int)>0:=by omega
   rw[if_pos (decide_eq_true hc)];have sa:S.a5k (as,())=some ((if as.length<=2 then((a0c B32 as:Nat):Int)else 0,decide (as.length<=2)),()):=by
    unfold S.a5k;exact if_pos ⟨a1q ca,by dsimp only;omega⟩
   have sb:S.a5k (bs,())=some ((if bs.length<=2 then((a0c B32 bs:Nat):Int)else 0,decide (bs.length<=2)),()):=by
    unfold S.a5k;exact if_pos ⟨a1q cb,by dsimp only;omega⟩
   rw[sa,Option.bind_some,sb,Option.bind_some];dsimp only;have hsmall:∀xs:List Int,dig B32 xs=true->xs.length<=2->a0c B32 xs<18446744073709551616:=by
    intro xs hd hl;have h1:=a1n hd;have h2:B32^xs.length<=B32^2:=Nat.pow_le_pow_right (by decide) hl;have h3:B32^2=18446744073709551616:=rfl;omega
   have hbig:Option.bind (S.a5a (as,(bs,()))) (fun(y9:(((List Int)×(List Int))×Unit))=>(loopP (P.b6b K) k (y9.1.2,(bs,()))))=some (nd B32 (Nat.gcd (a0c B32 as) (a0c B32 bs)),()):=by
    unfold S.a5a;dsimp only;rw[if_pos ⟨ca,cb,hb,la,lb⟩,Option.bind_some];dsimp only;have hl:(nd B32 (a0c B32 as%a0c B32 bs)).length<=bs.length:=by
     have:=f6g a0e (Nat.le_of_lt hm);rwa [a1d cb]at this
    have hd:a0c B32 (nd B32 (a0c B32 as%a0c B32 bs))=a0c B32 as%a0c B32 bs:=a0i a0e _;rw[ih (a0c B32 as%a0c B32 bs) (by omega) bs _ k cb (a0m a0e _) lb (by omega) (by rw[hd];exact Nat.le_refl _) (by omega) (by omega),hd,d9t]
   by_cases c1:as.length<=2
   ·by_cases c2:bs.length<=2
    ·have s1:=hsmall as (a1q ca) c1;have s2:=hsmall bs (a1q cb) c2;simp only[c1,c2,decide_true,if_true];exact g5r n _ _ K hn hK s1 s2
    ·rw[if_pos (decide_eq_true c1),if_neg (by simpa using c2)];exact hbig
   ·rw[if_neg (by simpa using c1)];exact hbig
def S.a5s (x:((List Int)×((List Int)×Unit))):(Option ((List Int)×Unit)):=if a2r B32 x.1=true/\a2r B32 x.2.1=true/\x.1.length<=100000000/\x.2.1.length<=100000000 then some (nd B32 (Nat.gcd (a0c B32 x.1) (a0c B32 x.2.1)),())else none
theorem S.e6y (x r) (h:S.a5s x=some r):∃k,P.d3u k x=some r:=by
 obtain⟨as,bs,u⟩:=x;unfold S.a5s at h;dsimp only at h;split at h
 case isFalse=>cases h
 rename_i hc;obtain⟨ca,cb,la,lb⟩:=hc;cases h;refine⟨a0c B32 bs+1,?_⟩;unfold P.d3u;exact h1d _ (a0c B32 bs) as bs _ ca cb la lb (Nat.le_refl _) (by omega) (by omega)
def S.a3v (x:(ByteArray×(Int×(Int×Unit)))):(Option ((Int×Bool)×Unit)):=if x.2.1=10/\x.2.2.1=64/\x.1.size<=281474976710656 then some (match Go.Lib.parseUintB 64 x.1.data.toList with| .ok v=>(((v:Nat):Int),false)| .«syntax» =>(0,true)| .range=>(18446744073709551615,true),())else none
abbrev i_nat_add.A:=Int×Int×Int×List Int×List Int×List Int×Unit
abbrev i_nat_add.B:=Option (List Int×Unit)
abbrev P.a9a (x1:i_nat_add.A) (g2:i_nat_add.A->i_nat_add.B):i_nat_add.B:=
 (fun(a b c:Int) (d e f:List Int)=>if decide (a<b)then if decide (0<=a)then if decide (a<(d.length:Int))then if decide (a<(e.length:Int))then if decide (0<=a)then if decide (a<(e.length:Int))then if decide (0<=a)then if decide (a<(f.length:Int))then g2 (wrap .i64 (a+1),b,Int.fdiv (wrap .u64 ((wrap .u64 (c+(wrap .u64 (d.getD a.toNat 0))))+(wrap .u64 (e.getD a.toNat 0)))) 4294967296,d,e,f.set (0+a.toNat) (wrap .u32 (wrap .u64 ((wrap .u64 (c+(wrap .u64 (d.getD a.toNat 0))))+(wrap .u64 (e.getD a.toNat 0))))),())else none else none else none else none else if decide (0<=a)then if decide (a<(f.length:Int))then g2 (wrap .i64 (a+1),b,Int.fdiv (wrap .u64 (c+(wrap .u64 (d.getD a.toNat 0)))) 4294967296,d,e,f.set (0+a.toNat) (wrap .u32 (wrap .u64 (c+(wrap .u64 (d.getD a.toNat 0))))),())else none else none else none else none else if decide (0<=(d.length:Int))then if decide ((d.length:Int)<(f.length:Int))then(S.a3u (f.set (0+(Int.toNat (d.length:Int))) (wrap .u32 c),())).bind fun y3=>some (y3.1,())else none else none) x1.1 x1.2.1 x1.2.2.1 x1.2.2.2.1 x1.2.2.2.2.1 x1.2.2.2.2.2.1
abbrev P.c8i (x5:i_nat_add.A) (g6:i_nat_add.A->i_nat_add.B):i_nat_add.B:=
 (fun(a b c:Int) (d e f:List Int)=>if decide (a<b)then if decide (0<=a)then if decide (a<(d.length:Int))then if decide (a<(e.length:Int))then if decide (0<=a)then if decide (a<(e.length:Int))then if decide (0<=a)then if decide (a<(f.length:Int))then g6 (wrap .i64 (a+1),b,Int.fdiv (wrap .u64 ((wrap .u64 (c+(wrap .u64 (d.getD a.toNat 0))))+(wrap .u64 (e.getD a.toNat 0)))) 4294967296,d,e,f.set (0+a.toNat) (wrap .u32 (wrap .u64 ((wrap .u64 (c+(wrap .u64 (d.getD a.toNat 0))))+(wrap .u64 (e.getD a.toNat 0))))),())else none else none else none else none else if decide (0<=a)then if decide (a<(f.length:Int))then g6 (wrap .i64 (a+1),b,Int.fdiv (wrap .u64 (c+(wrap .u64 (d.getD a.toNat 0)))) 4294967296,d,e,f.set (0+a.toNat) (wrap .u32 (wrap .u64 (c+(wrap .u64 (d.getD a.toNat 0))))),())else none else none else none else none else if decide (0<=(d.length:Int))then if decide ((d.length:Int)<(f.length:Int))then(S.a3u (f.set (0+(Int.toNat (d.length:Int))) (wrap .u32 c),())).bind fun y7=>some (y7.1,())else none else none) x5.1 x5.2.1 x5.2.2.1 x5.2.2.2.1 x5.2.2.2.2.1 x5.2.2.2.2.2.1
def P.c4w (k:Nat) (x:List Int×List Int×Unit):i_nat_add.B:=
 if decide ((x.1.length:Int)<(x.2.1.length:Int))then if decide (0<=(wrap .i64 ((x.2.1.length:Int)+1)))then if decide ((wrap .i64 ((x.2.1.length:Int)+1))<=(wrap .i64 ((x.2.1.length:Int)+1)))then if decide (((wrap .i64 ((x.2.1.length:Int)+1))*4)<=281474976710656)then loopP P.a9a k (0,(x.2.1.length:Int),0,x.2.1,x.1,List.replicate (Int.toNat (wrap .i64 ((x.2.1.length:Int)+1))) 0,())else none else none else none else if decide (0<=(wrap .i64 ((x.1.length:Int)+1)))then if decide ((wrap .i64 ((x.1.length:Int)+1))<=(wrap .i64 ((x.1.length:Int)+1)))then if decide (((wrap .i64 ((x.1.length:Int)+1))*4)<=281474976710656)then loopP P.c8i k (0,(x.1.length:Int),0,x.1,x.2.1,List.replicate (Int.toNat (wrap .i64 ((x.1.length:Int)+1))) 0,())else none else none else none
theorem f3n (b:(Int×(Int×(Int×((List Int)×((List Int)×((List Int)×Unit))))))->((Int×(Int×(Int×((List Int)×((List Int)×((List Int)×Unit))))))->Option ((List Int)×Unit))->Option ((List Int)×Unit)) (hb:b=P.a9a)
  (xs ys:List Int) (hx:dig B32 xs=true) (hy:dig B32 ys=true) (hl:ys.length<=xs.length) (hbig:xs.length<=100000000000):
  loopP b (xs.length+1) ((0:Int),((xs.length:Int),((0:Int),(xs,(ys,(List.replicate (xs.length+1) 0,()))))))=some (nd B32 (a0c B32 xs+a0c B32 ys),()):=by
 subst hb;have key:=a0f (k:=xs.length+1) (b:=P.a9a) (n:=xs.length) (st:=fun i=>((i:Int),(xs.length:Int),((a1e B32 xs ys i).2:Int),xs,ys,(a1e B32 xs ys i).1++List.replicate (xs.length+1 - i) 0,())) (F:=fun i=>some (nd B32 (a0c B32 xs+a0c B32 ys),())) (fun i g hi hg=>by
  unfold P.a9a;dsimp only at hg ⊢;obtain⟨q1,q2,q3,q4⟩:=b3o a0e hx hy i;have gx:=a1b (B:=B32) (by decide) hx i;have gy:=a1b (B:=B32) (by decide) hy i;have gx1:xs.getD i 0<4294967296:=gx.2;have gy1:ys.getD i 0<4294967296:=gy.2;have gx0:=gx.1;have gy0:=gy.1;have hlen:((a1e B32 xs ys i).1++List.replicate (xs.length+1 - i) (0:Int)).length=xs.length+1:=by rw[List.length_append,q2,List.length_replicate];omega
  have e1:(i:Int)<(xs.length:Int):=by omega
  have e2:(0:Int)<=(i:Int):=by omega
  have e3:(i:Int)<((xs.length+1:Nat):Int):=by omega
  have hset:∀v:Int,((a1e B32 xs ys i).1++List.replicate (xs.length+1 - i) (0:Int)).set i v=((a1e B32 xs ys i).1++[v])++List.replicate (xs.length+1 - (i+1)) 0:=by
   intro v;have z1:xs.length+1 - i=(xs.length+1 - (i+1))+1:=by omega
   rw[z1,List.replicate_succ,List.set_append_right _ _ (by omega),q2,Nat.sub_self,List.append_assoc];rfl
  rw[hlen];simp only[e1,e2,e3,decide_true,if_true,Nat.zero_add,Int.toNat_natCast,hset];have hnat:∀n:Nat,n=(a1e B32 xs ys i).2+(xs.getD i 0).toNat+(ys.getD i 0).toNat->(((n%B32:Nat):Int)=(n:Int)%4294967296/\((n/B32:Nat):Int)=(n:Int)/4294967296):=by
   intro n _;constructor
   ·show((n%4294967296:Nat):Int)=_;omega
   ·show((n/4294967296:Nat):Int)=_;omega
  obtain⟨n1,n2⟩:=hnat _ rfl;rw[a1e]at hg;dsimp only at hg;rw[n1,n2]at hg
  by_cases hj:(i:Int)<(ys.length:Int)
  ·rw[if_pos (decide_eq_true hj),if_pos (decide_eq_true hj)];rw[wu (x:=xs.getD i 0) (by omega) (by omega),wu (x:=ys.getD i 0) (by omega) (by omega),wu (x:=((a1e B32 xs ys i).2:Int)+xs.getD i 0) (by omega) (by omega),wu (x:=((a1e B32 xs ys i).2:Int)+xs.getD i 0+ys.getD i 0) (by omega) (by omega),b9p _ (by omega),Int.fdiv_eq_ediv_of_nonneg _ (by omega),wr (by omega) (by omega)];have e:(((a1e B32 xs ys i).2+(xs.getD i 0).toNat+(ys.getD i 0).toNat:Nat):Int)=((a1e B32 xs ys i).2:Int)+xs.getD i 0+ys.getD i 0:=by omega
   rw[e]at hg;exact hg
  ·rw[if_neg (by simpa using hj)];have y0:ys.getD i 0=0:=by rw[List.getD_eq_getElem?_getD,List.getElem?_eq_none (by omega)];rfl
   rw[wu (x:=xs.getD i 0) (by omega) (by omega),wu (x:=((a1e B32 xs ys i).2:Int)+xs.getD i 0) (by omega) (by omega),b9p _ (by omega),Int.fdiv_eq_ediv_of_nonneg _ (by omega),wr (by omega) (by omega)];have e:(((a1e B32 xs ys i).2+(xs.getD i 0).toNat+(ys.getD i 0).toNat:Nat):Int)=((a1e B32 xs ys i).2:Int)+xs.getD i 0:=by omega
   rw[e]at hg;exact hg) (fun g=>by
  unfold P.a9a;dsimp only;obtain⟨q1,q2,q3,q4⟩:=b3o a0e hx hy xs.length;have hlen:((a1e B32 xs ys xs.length).1++List.replicate (xs.length+1 - xs.length) (0:Int)).length=xs.length+1:=by rw[List.length_append,q2,List.length_replicate];omega
  have e2:(0:Int)<=(xs.length:Int):=by omega
  have e3:(xs.length:Int)<((xs.length+1:Nat):Int):=by omega
  rw[if_neg (by simp),hlen,if_pos (decide_eq_true e2),if_pos (decide_eq_true e3),Nat.zero_add,Int.toNat_natCast];have hset:∀v:Int,((a1e B32 xs ys xs.length).1++List.replicate (xs.length+1 - xs.length) (0:Int)).set xs.length v=(a1e B32 xs ys xs.length).1++[v]:=by
   intro v;have z1:xs.length+1 - xs.length=1:=by omega
   rw[z1,List.set_append_right _ _ (by omega),q2,Nat.sub_self];rfl
  rw[hset,w32 (by omega) (by omega)];have hd:dig B32 ((a1e B32 xs ys xs.length).1++[((a1e B32 xs ys xs.length).2:Int)])=true:=by
   rw[a1m,q1,Bool.true_and,a2k];refine⟨⟨by omega,?_⟩,rfl⟩;show _<(4294967296:Int)
   omega
  rw[g0n _ hd (by simp [q2];omega),Option.bind_some];have ev:a0c B32 ((a1e B32 xs ys xs.length).1++[((a1e B32 xs ys xs.length).2:Int)])=a0c B32 xs+a0c B32 ys:=by
   rw[a0y,q2];have e:a0c B32 [((a1e B32 xs ys xs.length).2:Int)]=(a1e B32 xs ys xs.length).2:=by simp [a0c]
   rw[e,q3,List.take_length,List.take_of_length_le hl]
  rw[ev]) (by omega)
 exact key
def S.b0b (x:((List Int)×((List Int)×Unit))):(Option ((List Int)×Unit)):=if dig B32 x.1=true/\dig B32 x.2.1=true/\x.1.length<=10000000000/\x.2.1.length<=10000000000 then some (nd B32 (a0c B32 x.1+a0c B32 x.2.1),())else none
theorem S.e6z (x r) (h:S.b0b x=some r):∃k,P.c4w k x=some r:=by
 obtain⟨xs,ys,u⟩:=x;unfold S.b0b at h;dsimp only at h;split at h
 case isFalse=>cases h
 rename_i hc;obtain⟨dx,dy,lx,ly⟩:=hc;cases h
 by_cases hlt:xs.length<ys.length
 ·refine⟨ys.length+1,?_⟩;unfold P.c4w;dsimp only;have a1:(0:Int)<=(ys.length:Int)+1:=by omega
  have a3:((ys.length:Int)+1)*4<=281474976710656:=by omega
  rw[if_pos (decide_eq_true (by omega)),wr (by omega) (by omega),if_pos (decide_eq_true a1),if_pos (decide_eq_true (Int.le_refl _)),if_pos (decide_eq_true a3)];rw[show((ys.length:Int)+1).toNat=ys.length+1 by omega,f3n P.a9a rfl ys xs dy dx (by omega) (by omega),Nat.add_comm]
 ·refine⟨xs.length+1,?_⟩;unfold P.c4w;dsimp only;have a1:(0:Int)<=(xs.length:Int)+1:=by omega
  have a3:((xs.length:Int)+1)*4<=281474976710656:=by omega
  rw[if_neg (by simp;omega),wr (by omega) (by omega),if_pos (decide_eq_true a1),if_pos (decide_eq_true (Int.le_refl _)),if_pos (decide_eq_true a3)];rw[show((xs.length:Int)+1).toNat=xs.length+1 by omega];exact f3n P.c8i rfl xs ys dx dy (by omega) (by omega)
abbrev i_readNat.A:=Int×Int×ByteArray×List Int×Unit
abbrev i_readNat.B:=Option ((List Int×Bool)×Unit)
abbrev P.a6r (g5:ByteArray×List Int×Unit->i_readNat.B) (x8:Int×Int×Int×List Int×Int×ByteArray×Int×Unit) (g9:Int×Int×Int×List Int×Int×ByteArray×Int×Unit->i_readNat.B):i_readNat.B:=
 (fun(a b c e h:Int) (d:List Int) (f:ByteArray)=>if decide (a<b)then g9 (wrap .i64 (a+1),b,wrap .u64 (c*10),d,e,f,h,())else(S.a3d (c,())).bind fun y10=>(S.a2s (d,y10.1,())).bind fun y11=>(S.a3d (e,())).bind fun y12=>(S.b0b (y11.1,y12.1,())).bind fun y13=>if decide (0<=(f.size:Int))then if decide ((f.size:Int)<=(f.size:Int))then if decide (0<=h)then if decide (h<=(f.size:Int))then g5 (ByteArray.extract f h.toNat (Int.toNat (f.size:Int)),y13.1,())else none else none else none else none) x8.1 x8.2.1 x8.2.2.1 x8.2.2.2.2.1 x8.2.2.2.2.2.2.1 x8.2.2.2.1 x8.2.2.2.2.2.1
abbrev P.a9b (k:Nat) (x4:ByteArray×List Int×Unit) (g5:ByteArray×List Int×Unit->i_readNat.B):i_readNat.B:=
 if ! ((ByteArray.toList x4.1)==(ByteArray.toList (bs [])))then if(Int.tmod (x4.1.size:Int) 9)==0 then if decide (9<=(x4.1.size:Int))then(S.a3v (ByteArray.extract x4.1 0 9,10,64,())).bind fun y6=>loopP (P.a6r g5) k (0,9,1,x4.2.1,y6.1.1,x4.1,9,())else none else if decide (0<=(Int.tmod (x4.1.size:Int) 9))then if decide ((Int.tmod (x4.1.size:Int) 9)<=(x4.1.size:Int))then if decide (0<=(Int.tmod (x4.1.size:Int) 9))then(S.a3v (ByteArray.extract x4.1 0 (Int.toNat (Int.tmod (x4.1.size:Int) 9)),10,64,())).bind fun y14=>loopP (P.a6r g5) k (0,Int.tmod (x4.1.size:Int) 9,1,x4.2.1,y14.1.1,x4.1,Int.tmod (x4.1.size:Int) 9,())else none else none else none else some ((x4.2.1,true),())
abbrev P.a9c (k:Nat) (x1:i_readNat.A) (g2:i_readNat.A->i_readNat.B):i_readNat.B:=
 if decide (x1.1<x1.2.1)then if decide (0<=x1.1)then if decide (x1.1<(x1.2.2.1.size:Int))then if decide ((a2h x1.2.2.1 x1.1)<48)then some (([],false),())else if decide (0<=x1.1)then if decide (x1.1<(x1.2.2.1.size:Int))then if decide ((a2h x1.2.2.1 x1.1)>57)then some (([],false),())else g2 (wrap .i64 (x1.1+1),x1.2.1,x1.2.2.1,x1.2.2.2.1,())else none else none else none else none else loopP (P.a9b k) k (x1.2.2.1,x1.2.2.2.1,())
abbrev P.c4x (k:Nat) (x23:i_readNat.A) (g24:i_readNat.A->i_readNat.B):i_readNat.B:=
 (fun(a b:Int) (c:ByteArray) (d:List Int)=>if decide (a<b)then if decide (0<=a)then if decide (a<(c.size:Int))then if decide ((a2h c a)<48)then some (([],false),())else if decide (0<=a)then if decide (a<(c.size:Int))then if decide ((a2h c a)>57)then some (([],false),())else g24 (wrap .i64 (a+1),b,c,d,())else none else none else none else none else loopP (P.a9b k) k (c,d,())) x23.1 x23.2.1 x23.2.2.1 x23.2.2.2.1
def P.d3v (k:Nat) (x:ByteArray×Unit):i_readNat.B:=
 if(ByteArray.toList x.1)==(ByteArray.toList (bs []))then some (([],false),())else if decide ((x.1.size:Int)>200)then some (([],false),())else if decide (0<(x.1.size:Int))then if(a2h x.1 0)==48 then if decide ((x.1.size:Int)>1)then some (([],false),())else loopP (P.a9c k) k (0,(x.1.size:Int),x.1,[],())else loopP (P.c4x k) k (0,(x.1.size:Int),x.1,[],())else none
theorem f3o {p m:Nat} (h:p<10^m):(nd B32 p).length<=m:=by
 rw[a4l a0e];exact Nat.lt_of_lt_of_le h (Nat.pow_le_pow_left (by decide) _)
theorem g5s (g) (t:ByteArray) (p v n:Nat) (hn:n<=9) (hv:v<10^n) (hp:p<10^200) (hnl:n<=t.size) (K:Nat) (hK:n<K):
  loopP (P.a6r g) K ((0:Int),((n:Int),((1:Int),(nd B32 p,((v:Int),(t,((n:Int),())))))))=g (ByteArray.extract t n t.size,(nd B32 (p*10^n+v),())):=by
 have hp9:10^n<=10^9:=Nat.pow_le_pow_right (by decide) hn;have h9:(10:Nat)^9=1000000000:=by decide
 have key:=a0f (k:=K) (b:=P.a6r g) (n:=n) (st:=fun i=>((i:Int),(n:Int),((10^i:Nat):Int),nd B32 p,(v:Int),t,(n:Int),())) (F:=fun i=>g (ByteArray.extract t n t.size,(nd B32 (p*10^n+v),()))) (fun i g' hi hg'=>by
  unfold P.a6r;dsimp only at hg' ⊢;refine Eq.trans ?_ hg';have e1:(i:Int)<(n:Int):=by omega
  have hpi:10^(i+1)<=10^9:=Nat.pow_le_pow_right (by decide) (by omega);rw[Nat.pow_succ]at hpi ⊢;rw[if_pos (decide_eq_true e1),wr (by omega) (by omega),show((10^i:Nat):Int)*10=((10^i*10:Nat):Int) by omega,wu (by omega) (by omega)];rfl) (fun g'=>by
  unfold P.a6r;dsimp only;rw[if_neg (by simp)];unfold S.a3d S.a2s S.b0b;dsimp only;have hl1:=f3o hp;have hl2:=f3o (p:=10^n) (m:=10) (by omega);have hl3:(nd B32 (p*10^n)).length<=209:=f3o (by
   have:p*10^n<10^200*10^9:=Nat.mul_lt_mul_of_lt_of_le hp hp9 (Nat.pow_pos (by decide));rwa [<-Nat.pow_add]at this)
  have hl4:=f3o (p:=v) (m:=9) (by omega);rw[if_pos ⟨by omega,by omega⟩,Option.bind_some,Int.toNat_natCast];dsimp only;rw[if_pos ⟨a3z a0e _,a3z a0e _,by omega,by omega⟩,Option.bind_some,if_pos ⟨by omega,by omega⟩,Option.bind_some,Int.toNat_natCast];dsimp only;rw[a0i a0e,a0i a0e,if_pos ⟨a3z a0e _,a3z a0e _,by omega,by omega⟩,Option.bind_some,a0i a0e,a0i a0e];have c1:(0:Int)<=(t.size:Int):=by omega
  have c2:(0:Int)<=(n:Int):=by omega
  have c3:(n:Int)<=(t.size:Int):=by omega
  rw[if_pos (decide_eq_true c1),if_pos (decide_eq_true (Int.le_refl _)),if_pos (decide_eq_true c2),if_pos (decide_eq_true c3),Int.toNat_natCast,Int.toNat_natCast]) hK
 exact key
theorem h1e (K:Nat) (hK:10<=K) (m:Nat):∀(t:ByteArray) (p k:Nat),t.data.toList.length=m->b9r t.data.toList=true->m<=200->p<10^(200 - m)->m<k->
  loopP (P.a9b K) k (t,(nd B32 p,()))=some ((nd B32 (p*10^m+dv t.data.toList),true),()):=by
 induction m using Nat.strongRecOn with
 |ind m ih=>
  intro t p k hm hd hm2 hp hk;obtain⟨k,rfl⟩:∃j,k=j+1:=⟨k - 1,by omega⟩
  rw[a0j];have hs:t.size=t.data.toList.length:=by rw[Array.length_toList];rfl
  have hstep:∀n:Nat,0<n->n<=9->n<=m->Option.bind (S.a3v (ByteArray.extract t 0 n,(10,(64,())))) (fun(y6:((Int×Bool)×Unit))=>(Go.Cm.loopP (P.a6r (loopP (P.a9b K) k)) K ((0:Int),((n:Int),((1:Int),(nd B32 p,(y6.1.1,(t,((n:Int),())))))))))=some ((nd B32 (p*10^m+dv t.data.toList),true),()):=by
   intro n hn0 hn9 hnm;have hx:(ByteArray.extract t 0 n).data.toList=t.data.toList.take n:=by rw[d9w,List.drop_zero]
   have hxl:(t.data.toList.take n).length=n:=by simp;omega
   have hxs:(ByteArray.extract t 0 n).size=n:=by
    have:(ByteArray.extract t 0 n).size=(ByteArray.extract t 0 n).data.toList.length:=by rw[Array.length_toList];rfl
    rw[this,hx,hxl]
   have hdx:=d1k hd n;have hpar:=g4h (t.data.toList.take n) hdx (by intro q;rw[q]at hxl;simp at hxl;omega) (by omega);unfold S.a3v;dsimp only;rw[if_pos ⟨rfl,rfl,by omega⟩,hx,hpar,Option.bind_some];dsimp only;have hv:=f8x hdx;rw[hxl]at hv;have hp200:p<10^200:=Nat.lt_of_lt_of_le hp (Nat.pow_le_pow_right (by decide) (by omega));rw[g5s _ t p _ n hn9 hv hp200 (by omega) K (by omega)];have hd2:(ByteArray.extract t n t.size).data.toList=t.data.toList.drop n:=by
    rw[d9w,List.take_of_length_le (by omega)]
   have hl2:(t.data.toList.drop n).length=m - n:=by simp;omega
   have hb:p*10^n+dv (t.data.toList.take n)<10^(200 - (m - n)):=by
    have h1:(p+1)*10^n<=10^(200 - m)*10^n:=Nat.mul_le_mul_right _ hp;rw[<-Nat.pow_add,show 200 - m+n=200 - (m - n) by omega,Nat.add_mul,Nat.one_mul]at h1;omega
   rw[ih (m - n) (by omega) _ _ k (by rw[hd2,hl2]) (by rw[hd2];exact c3w hd n) (by omega) hb (by omega),hd2];have h3:=c3v (t.data.toList.take n) (t.data.toList.drop n);rw[List.take_append_drop,hl2]at h3;rw[h3,Nat.add_mul,Nat.mul_assoc,<-Nat.pow_add,show n+(m - n)=m by omega,Nat.add_assoc]
  generalize loopP (P.a9b K) k=G at hstep ⊢;unfold P.a9b;dsimp only;have hbs:ByteArray.toList (bs [])=[]:=by rw[ByteArray.toList_eq];rfl
  rw[hbs,ByteArray.toList_eq,hs,hm]
  by_cases h0:m=0
  ·subst h0;have:t.data.toList=[]:=List.eq_nil_of_length_eq_zero hm;rw[this,if_neg (by simp),Nat.pow_zero,Nat.mul_one,show dv []=0 from rfl,Nat.add_zero]
  ·have hne:t.data.toList≠ []:=by
    intro q;rw[q]at hm;simp at hm;omega
   have hmod:Int.tmod (m:Int) 9=((m%9:Nat):Int):=by
    rw[Int.tmod_eq_emod_of_nonneg (by omega)];omega
   rw[if_pos (by simpa using hne),hmod]
   by_cases h9:m%9=0
   ·have c1:(9:Int)<=(m:Int):=by omega
    rw[if_pos (by simp [h9]),if_pos (decide_eq_true c1)];exact hstep 9 (by omega) (by omega) (by omega)
   ·have c1:(0:Int)<=((m%9:Nat):Int):=by omega
    have c2:((m%9:Nat):Int)<=(m:Int):=by omega
    rw[if_neg (by simp;omega),if_pos (decide_eq_true c1),if_pos (decide_eq_true c2),if_pos (decide_eq_true c1),Int.toNat_natCast];exact hstep (m%9) (by omega) (by omega) (by omega)
theorem g0o (b:Nat->(Int×(Int×(ByteArray×((List Int)×Unit))))->((Int×(Int×(ByteArray×((List Int)×Unit))))->Option (((List Int)×Bool)×Unit))->Option (((List Int)×Bool)×Unit)) (hbb:b=P.a9c) (t:ByteArray) (hl:t.data.toList.length<=200) (K:Nat) (hK:300<=K):
  loopP (b K) K ((0:Int),((t.size:Int),(t,([],()))))=some (if b9r t.data.toList=true then(nd B32 (dv t.data.toList),true)else([],false),()):=by
 subst hbb;have hs:t.size=t.data.toList.length:=by rw[Array.length_toList];rfl
 rw[hs];have hloop:=h1e K (by omega) t.data.toList.length t 0 K rfl;generalize hL:t.data.toList=l at*;have key:∀d i k:Nat,i+d=l.length->d<k->b9r (l.take i)=true->loopP (P.a9c K) k ((i:Int),((l.length:Int),(t,(([]:List Int),()))))=some (if b9r l=true then(nd B32 (dv l),true)else([],false),()):=by
  intro d
  induction d with
  |zero=>
   intro i k hi hk hd;obtain⟨k,rfl⟩:∃j,k=j+1:=⟨k - 1,by omega⟩
   have:i=l.length:=by omega
   subst this;rw[List.take_length]at hd;rw[a0j];unfold P.a9c;dsimp only;rw[if_neg (by simp),if_pos hd];have:=hloop hd hl (Nat.pow_pos (by decide)) (by omega);rw[a1t a0e,Nat.zero_mul,Nat.zero_add]at this;exact this
  |succ d ih=>
   intro i k hi hk hd;obtain⟨k,rfl⟩:∃j,k=j+1:=⟨k - 1,by omega⟩
   have hil:i<l.length:=by omega
   rw[a0j];unfold P.a9c;dsimp only;have e1:(i:Int)<(l.length:Int):=by omega
   have e2:(0:Int)<=(i:Int):=by omega
   have hb:a2h t (i:Int)=(l[i].toNat:Int):=by
    unfold a2h;rw[hL,a0n l i _ hil]
   have ha2:b9r (l.take (i+1))=(b9r (l.take i)&&isD l[i]):=by
    rw[<-List.take_append_getElem hil,c2k];simp [b9r]
   have ha3:b9r l=true->isD l[i]=true:=fun q=>decide_eq_true (f2v q hil)
   rw[hs,hb,wr (x:=(i:Int)+1) (by omega) (by omega)];simp only[e1,e2,decide_true,if_true]
   by_cases c1:48<=l[i].toNat
   ·rw[if_neg (by simp;omega)]
    by_cases c2:l[i].toNat<=57
    ·have:isD l[i]=true:=decide_eq_true ⟨c1,c2⟩;rw[this,Bool.and_true]at ha2;rw[if_neg (by simp;omega)];exact ih (i+1) k (by omega) (by omega) (by rw[ha2];exact hd)
    ·have:isD l[i]=false:=decide_eq_false (fun q=>c2 q.2);rw[if_pos (decide_eq_true (by omega)),if_neg (fun q=>by rw[ha3 q]at this;cases this)]
   ·have:isD l[i]=false:=decide_eq_false (fun q=>c1 q.1);rw[if_pos (decide_eq_true (by omega)),if_neg (fun q=>by rw[ha3 q]at this;cases this)]
 exact key l.length 0 K (by omega) (by omega) rfl
def S.b0c (x:(ByteArray×Unit)):(Option (((List Int)×Bool)×Unit)):=some (if okN x.1.data.toList=true then(nd B32 (dv x.1.data.toList),true)else([],false),())
theorem S.e7a (x r) (h:S.b0c x=some r):∃k,P.d3v k x=some r:=by
 obtain⟨t,u⟩:=x;unfold S.b0c at h;dsimp only at h;refine⟨300,?_⟩;rw[<-h];unfold P.d3v;dsimp only;have hs:t.size=t.data.toList.length:=by rw[Array.length_toList];rfl
 have hbs:ByteArray.toList (bs [])=[]:=by rw[ByteArray.toList_eq];rfl
 rw[hbs,ByteArray.toList_eq];have hscan:=g0o P.a9c rfl t;have hscan2:=g0o P.c4x rfl t;unfold okN okR
 by_cases h1:t.data.toList=[]
 ·rw[h1,if_pos (by rfl)];rfl
 ·have hpos:0<t.data.toList.length:=List.length_pos_iff.2 h1;rw[if_neg (by simpa using h1),decide_eq_true h1,Bool.true_and,hs]
  by_cases h2:t.data.toList.length<=200
  ·have d2:¬(t.data.toList.length:Int)>200:=by omega
   have d3:(0:Int)<(t.data.toList.length:Int):=by omega
   rw[if_neg (by simpa using d2),if_pos (decide_eq_true d3),decide_eq_true h2,Bool.true_and];have s1:=hscan h2 300 (by omega);have s2:=hscan2 h2 300 (by omega);rw[hs]at s1 s2;have hb:a2h t 0=(t.data.toList[0].toNat:Int):=by
    exact congrArg (fun c:UInt8=>(c.toNat:Int)) (a0n t.data.toList 0 0 hpos)
   have hh:t.data.toList.head? =some t.data.toList[0]:=by
    generalize t.data.toList=l at*;cases l with
    |nil=>simp at h1
    |cons c r=>rfl
   rw[hb,hh]
   by_cases c1:t.data.toList[0]=48
   ·rw[c1,if_pos (by rfl)]
    by_cases h3:t.data.toList.length=1
    ·have d4:¬(t.data.toList.length:Int)>1:=by omega
     rw[if_neg (by simpa using d4),s1,decide_eq_true h3,Bool.true_or,Bool.and_true]
    ·have d4:(t.data.toList.length:Int)>1:=by omega
     rw[if_pos (decide_eq_true d4),decide_eq_false h3,Bool.false_or,decide_eq_false (by simp),Bool.and_false,if_neg (by simp)]
   ·have c2:¬((t.data.toList[0].toNat:Int)=48):=by
     intro q;apply c1;apply UInt8.toNat_inj.1;show _=48;omega
    rw[if_neg (by simpa using c2),s2,decide_eq_true (p:=some t.data.toList[0]≠some 48) (by simpa using c1),Bool.or_true,Bool.and_true]
  ·have d2:(t.data.toList.length:Int)>200:=by omega
   rw[if_pos (decide_eq_true d2),decide_eq_false h2,Bool.false_and,Bool.and_false,if_neg (by simp)]
def P.d3w (k:Nat) (x:ByteArray×Unit):Option ((RB×Bool)×Unit):=
 (S.b5h (x.1,bs [47],())).bind fun y0=>(S.a7e (y0.1.1,bs [45],())).bind fun y1=>(S.b0c (y1.1.1,())).bind fun y2=>if !y2.1.2 then some (((false,[],[]),false),())else if y1.1.2 then if(y2.1.1.length:Int)==0 then some (((false,[],[]),false),())else(S.a3d (1,())).bind fun y3=>if !y0.1.2.2 then some (((y1.1.2,y2.1.1,y3.1),true),())else(S.b0c (y0.1.2.1,())).bind fun y4=>if !y4.1.2 then some (((false,[],[]),false),())else(S.a3d (1,())).bind fun y5=>(S.a1k (y4.1.1,y5.1,())).bind fun y6=>if decide (y6.1<=0)then some (((false,[],[]),false),())else(S.a5s (y2.1.1,y4.1.1,())).bind fun y7=>(S.a3d (1,())).bind fun y8=>(S.a1k (y7.1,y8.1,())).bind fun y9=>if y9.1 != 0 then some (((false,[],[]),false),())else some (((y1.1.2,y2.1.1,y4.1.1),true),())else(S.a3d (1,())).bind fun y10=>if !y0.1.2.2 then some (((y1.1.2,y2.1.1,y10.1),true),())else(S.b0c (y0.1.2.1,())).bind fun y11=>if !y11.1.2 then some (((false,[],[]),false),())else(S.a3d (1,())).bind fun y12=>(S.a1k (y11.1.1,y12.1,())).bind fun y13=>if decide (y13.1<=0)then some (((false,[],[]),false),())else(S.a5s (y2.1.1,y11.1.1,())).bind fun y14=>(S.a3d (1,())).bind fun y15=>(S.a1k (y14.1,y15.1,())).bind fun y16=>if y16.1 != 0 then some (((false,[],[]),false),())else some (((y1.1.2,y2.1.1,y11.1.1),true),())
def S.b7c (x:(ByteArray×Unit)):(Option ((RB×Bool)×Unit)):=if x.1.size<4294967281 then some ((rp B32 (a5q x.1.data.toList).1,(a5q x.1.data.toList).2),())else none
theorem g0p:((false,(([]:List Int),([]:List Int))),false)=(rp B32 noQ.1,noQ.2):=by
 unfold noQ rp;dsimp only;rw[a1t a0e]
theorem e7b:S.a3d (1,())=some (nd B32 1,()):=by
 unfold S.a3d;rfl
theorem g0q (neg:Bool) (c:List UInt8×List UInt8×Bool) (hok:okN c.1=true) (hn:¬(neg=true/\dv c.1=0)):
  (Option.bind (S.a3d ((1:Int),())) (fun(y10:((List Int)×Unit))=>(if((!c.2.2)=true)then(some (((neg,(nd B32 (dv c.1),y10.1)),true),()))
 else(Option.bind (S.b0c ((⟨c.2.1.toArray⟩:ByteArray),())) (fun(y11:(((List Int)×Bool)×Unit))=>(if((!y11.1.2)=true)then(some (((false,(([]:List Int),([]:List Int))),false),()))
 else(Option.bind (S.a3d ((1:Int),())) (fun(y12:((List Int)×Unit))=>(Option.bind (S.a1k (y11.1.1,(y12.1,()))) (fun(y13:(Int×Unit))=>(if((decide (y13.1<=(0:Int)))=true)then(some (((false,(([]:List Int),([]:List Int))),false),()))
 else(Option.bind (S.a5s (nd B32 (dv c.1),(y11.1.1,()))) (fun(y14:((List Int)×Unit))=>(Option.bind (S.a3d ((1:Int),())) (fun(y15:((List Int)×Unit))=>(Option.bind (S.a1k (y14.1,(y15.1,()))) (fun(y16:(Int×Unit))=>(if((y16.1 != (0:Int))=true)then(some (((false,(([]:List Int),([]:List Int))),false),()))
 else(some (((neg,(nd B32 (dv c.1),y11.1.1)),true),()))))))))))))))))))))=some ((rp B32 (a6a neg c).1,(a6a neg c).2),()):=by
 have hbody:a6a neg c=(if c.2.2=true then(if okN c.2.1=true/\1<dv c.2.1/\Nat.gcd (dv c.1) (dv c.2.1)=1 then((neg,(dv c.1,dv c.2.1)),true)else noQ)else((neg,(dv c.1,1)),true)):=if_pos ⟨hok,hn⟩;rw[e7b,Option.bind_some,g0p,hbody];obtain⟨a,b,f⟩:=c;dsimp only at*;cases f
 ·rfl
 ·rw[if_neg (by decide),if_pos rfl];unfold S.b0c;rw[Option.bind_some];dsimp only;cases hb:okN b
  ·have hx:¬((false:Bool)=true/\1<dv b/\Nat.gcd (dv a) (dv b)=1):=fun q=>by cases q.1
   rw[if_neg hx];rfl
  ·have lb:=b6x (B:=B32) (by decide) (c8b hb);have la:=b6x (B:=B32) (by decide) (c8b hok);have e1:S.a1k (nd B32 (dv b),(nd B32 1,()))=some (b1d (dv b) 1,()):=by
    unfold S.a1k;dsimp only;rw[if_pos ⟨a0m a0e _,a0m a0e _,by omega⟩,a0i a0e,a0i a0e]
   have e2:S.a5s (nd B32 (dv a),(nd B32 (dv b),()))=some (nd B32 (Nat.gcd (dv a) (dv b)),()):=by
    unfold S.a5s;dsimp only;rw[if_pos ⟨a0m a0e _,a0m a0e _,by omega,by omega⟩,a0i a0e,a0i a0e]
   show(Option.bind (S.a3d ((1:Int),())) (fun(y12:((List Int)×Unit))=>(Option.bind (S.a1k (nd B32 (dv b),(y12.1,()))) (fun(y13:(Int×Unit))=>(if((decide (y13.1<=(0:Int)))=true)then(some ((rp B32 noQ.1,noQ.2),()))
 else(Option.bind (S.a5s (nd B32 (dv a),(nd B32 (dv b),()))) (fun(y14:((List Int)×Unit))=>(Option.bind (S.a3d ((1:Int),())) (fun(y15:((List Int)×Unit))=>(Option.bind (S.a1k (y14.1,(y15.1,()))) (fun(y16:(Int×Unit))=>(if((y16.1 != (0:Int))=true)then(some ((rp B32 noQ.1,noQ.2),()))
 else(some (((neg,(nd B32 (dv a),nd B32 (dv b))),true),()))))))))))))))=_
   rw[e7b,Option.bind_some];dsimp only;rw[e1,Option.bind_some];dsimp only
   by_cases h1:1<dv b
   ·have hc:¬(b1d (dv b) 1<=0):=by
     have:=(c6i (a:=dv b) (b:=1)).2 h1;omega
    have lg:(nd B32 (Nat.gcd (dv a) (dv b))).length<=200:=Nat.le_trans (a6n a0e (Nat.le_of_dvd (by omega) (Nat.gcd_dvd_right _ _))) lb;have e3:S.a1k (nd B32 (Nat.gcd (dv a) (dv b)),(nd B32 1,()))=some (b1d (Nat.gcd (dv a) (dv b)) 1,()):=by
     unfold S.a1k;dsimp only;rw[if_pos ⟨a0m a0e _,a0m a0e _,by omega⟩,a0i a0e,a0i a0e]
    rw[if_neg (by simpa using hc),e2,Option.bind_some,Option.bind_some];dsimp only;rw[e3,Option.bind_some];dsimp only
    by_cases hg:Nat.gcd (dv a) (dv b)=1
    ·rw[if_neg (by simpa using a4v.2 hg),if_pos ⟨rfl,h1,hg⟩];rfl
    ·rw[if_pos (by simpa using fun q=>hg (a4v.1 q)),if_neg (fun q=>hg q.2.2)]
   ·have hc:b1d (dv b) 1<=0:=by
     have h2:¬(b1d (dv b) 1>0):=fun q=>h1 ((c6i (a:=dv b) (b:=1)).1 q)
     omega
    rw[if_pos (decide_eq_true hc),if_neg (fun q=>h1 q.2.1)]
theorem S.e7c (x r) (h:S.b7c x=some r):∃k,P.d3w k x=some r:=by
 obtain⟨s,u⟩:=x;unfold S.b7c at h;dsimp only at h;split at h
 case isFalse=>cases h
 rename_i hsz;refine⟨0,?_⟩;rw[<-h];unfold P.d3w;dsimp only;have e0:S.b5h (s,(bs [47],()))=some ((⟨(b1h 47 s.data.toList).1.toArray⟩,(⟨(b1h 47 s.data.toList).2.1.toArray⟩,(b1h 47 s.data.toList).2.2)),()):=by
  unfold S.b5h;dsimp only;rw[if_pos hsz,show(bs [47]).data.toList=[47]from rfl,g4i]
 have e1:∀l:List UInt8,S.a7e (⟨l.toArray⟩,(bs [45],()))=some ((⟨(if l.head? =some 45 then l.tail else l).toArray⟩,decide (l.head? =some 45)),()):=by
  intro l;unfold S.a7e Go.Lib.trimPrefix Go.Lib.hasPrefix;dsimp only;rw[show(bs [45]).data.toList=[45]from rfl];cases l with
  |nil=>rfl
  |cons b r=>
   by_cases hb:b=45
   ·subst hb;simp
   ·have hb':¬(45=b):=fun q=>hb q.symm
    have hp:([45].isPrefixOf (b::r))=false:=by
     show((45:UInt8)==b&&([]:List UInt8).isPrefixOf r)=false;rw[show((45:UInt8)==b)=false from beq_eq_false_iff_ne.2 hb',Bool.false_and]
    have hh:¬((b::r).head? =some 45):=by simpa using hb
    rw[hp,if_neg (by decide),if_neg hh,decide_eq_false hh]
 rw[e0,Option.bind_some];dsimp only;rw[e1,Option.bind_some];dsimp only;generalize s.data.toList=l at*;have hcut:∃(neg:Bool) (c:List UInt8×List UInt8×Bool),decide ((b1h 47 l).1.head? =some 45)=neg/\(if(b1h 47 l).1.head? =some 45 then(b1h 47 l).1.tail else(b1h 47 l).1)=c.1/\(b1h 47 l).2.1=c.2.1/\(b1h 47 l).2.2=c.2.2/\a5q l=a6a neg c:=by
  unfold a5q;cases l with
  |nil=>exact⟨false,b1h 47 [],rfl,rfl,rfl,rfl,rfl⟩
  |cons b r=>
   by_cases hb:b=45
   ·subst hb;have hc:b1h 47 (45::r)=(45::(b1h 47 r).1,(b1h 47 r).2.1,(b1h 47 r).2.2):=by rw[c3y,if_neg (by decide)]
    rw[hc];exact⟨true,b1h 47 r,rfl,rfl,rfl,rfl,rfl⟩
   ·have hh:¬((b1h 47 (b::r)).1.head? =some 45):=by
     rw[c3y];split
     ·simp
     ·simpa using hb
    refine⟨false,b1h 47 (b::r),decide_eq_false hh,if_neg hh,rfl,rfl,?_⟩;rw[if_neg (by simpa using hb)]
 obtain⟨neg,c,h1,h2,h3,h4,h5⟩:=hcut;rw[h1,h2,h3,h4,h5];have e2:S.b0c (⟨c.1.toArray⟩,())=some (if okN c.1=true then(nd B32 (dv c.1),true)else([],false),()):=rfl;rw[e2,Option.bind_some];cases hok:okN c.1
 ·have:a6a neg c=noQ:=by
   unfold a6a;rw[if_neg (fun q=>by rw[hok]at q;cases q.1)]
  rw[this,<-g0p];rfl
 ·rw[if_pos rfl];dsimp only;rw[if_neg (show ¬((!true)=true) by decide)];have hz:(((nd B32 (dv c.1)).length:Int)==0)=decide (dv c.1=0):=by
   have:=a9t a0e (a0m a0e (dv c.1));rw[a0i a0e]at this
   by_cases h0:dv c.1=0
   ·rw[this.2 h0,h0];rfl
   ·have hne:=fun q=>h0 (this.1 q)
    rw[decide_eq_false h0];simpa using hne
  cases neg
  ·rw[if_neg (by decide)];exact g0q false c hok (fun q=>by cases q.1)
  ·rw[if_pos rfl,hz]
   by_cases h0:dv c.1=0
   ·have:a6a true c=noQ:=by
     unfold a6a;rw[if_neg (fun q=>q.2 ⟨rfl,h0⟩)]
    rw[if_pos (decide_eq_true h0),this,<-g0p]
   ·rw[if_neg (by simpa using h0)];exact g0q true c hok (fun q=>h0 q.2)
abbrev i_rats.A:=Option ((List RB×Bool)×Unit)
abbrev P.c4y (x1:Int×Int×List ByteArray×List RB×Unit) (g2:Int×Int×List ByteArray×List RB×Unit->i_rats.A):i_rats.A:=
 if decide (x1.1<x1.2.1)then if decide (0<=x1.1)then if decide (x1.1<(x1.2.2.1.length:Int))then(S.b7c (x1.2.2.1.getD x1.1.toNat (bs []),())).bind fun y3=>if !y3.1.2 then some (([],false),())else if decide (((x1.2.2.2.1.length+(List.length [(y3.1.1.1,y3.1.1.2.1,y3.1.1.2.2)]))*56)<=140737488355328)then g2 (wrap .i64 (x1.1+1),x1.2.1,x1.2.2.1,x1.2.2.2.1++[(y3.1.1.1,y3.1.1.2.1,y3.1.1.2.2)],())else none else none else none else some ((x1.2.2.2.1,true),())
def P.g0r (k:Nat) (x:List ByteArray×Unit):i_rats.A:=
 if decide ((x.1.length:Int)>300)then some (([],false),())else loopP P.c4y k (0,(x.1.length:Int),x.1,[],())
open Classical in
def S.e7d (x:((List ByteArray)×Unit)):(Option (((List RB)×Bool)×Unit)):=if okT x.1=true then some (((a2x x.1).1.map (rp B32),(a2x x.1).2),())else none
theorem f1i (s:ByteArray) (h:s.size<=1000000):S.b7c (s,())=some ((rp B32 (a5q s.data.toList).1,(a5q s.data.toList).2),()):=by
 unfold S.b7c;exact if_pos (by dsimp only;omega)
theorem S.g0s (x r) (h:S.e7d x=some r):∃k,P.g0r k x=some r:=by
 obtain⟨ls,u⟩:=x;unfold S.e7d at h;dsimp only at h;split at h
 case isFalse=>cases h
 rename_i hc;cases h;refine⟨ls.length+1,?_⟩;unfold P.g0r a2x;dsimp only
 by_cases hl:(ls.length:Int)>300
 ·rw[if_pos (decide_eq_true hl),if_neg (show ¬(ls.length<=300/\(ls.all fun s=>(a5q s.data.toList).2)=true)from fun z=>by omega)];rfl
 rw[if_neg (by simpa using hl)];have key:=a0f (k:=ls.length+1) (b:=P.c4y) (n:=ls.length) (st:=fun i=>((i:Int),(ls.length:Int),ls,(ls.take i).map (fun s=>rp B32 (a5q s.data.toList).1),())) (F:=fun i=>some (if((ls.drop i).all fun s=>(a5q s.data.toList).2)=true then(ls.map (fun s=>rp B32 (a5q s.data.toList).1),true)else([],false),())) (fun i g hi hg=>by
  unfold P.c4y;dsimp only at hg ⊢;have e1:(i:Int)<(ls.length:Int):=by omega
  have e2:(0:Int)<=(i:Int):=by omega
  simp only[e1,e2,decide_true,if_true];rw[a0n ls i _ hi,f1i _ (f9i hc hi),Option.bind_some,List.drop_eq_getElem_cons hi,List.all_cons];dsimp only;cases hf:(a5q ls[i].data.toList).2
  ·rw[if_pos (by rfl),if_neg (by simp)]
  ·rw[if_neg (by simp),wr (by omega) (by omega),Bool.true_and,<-hg];have e3:((List.map (fun s:ByteArray=>rp B32 (a5q s.data.toList).1) (ls.take i)).length+1)*56<=140737488355328:=by
    rw[List.length_map,List.length_take];omega
   simp only[List.length_cons,List.length_nil,Nat.zero_add];rw[if_pos (decide_eq_true e3),List.take_add_one,List.getElem?_eq_getElem hi,Option.toList_some,List.map_append];rfl) (fun g=>by
  unfold P.c4y;dsimp only;rw[if_neg (by simp),List.take_length,List.drop_length];rfl) (by omega)
 refine key.trans ?_;rw[List.drop_zero]
 by_cases ha:(ls.all fun s=>(a5q s.data.toList).2)=true
 ·rw[if_pos ha,if_pos (show ls.length<=300/\(ls.all fun s=>(a5q s.data.toList).2)=true from⟨by omega,ha⟩),List.map_map];rfl
 ·rw[if_neg ha,if_neg (fun z=>ha z.2)];rfl
abbrev P.b6c (x1:Int×Int×List Int×Int×List Int×List Int×Unit) (g2:Int×Int×List Int×Int×List Int×List Int×Unit->Option (List Int×Unit)):Option (List Int×Unit):=
 (fun(a b d:Int) (c e f:List Int)=>if decide (a<b)then if decide (0<=a)then if decide (a<(c.length:Int))then if decide (a<(e.length:Int))then if decide (0<=a)then if decide (a<(e.length:Int))then if decide ((wrap .i64 ((wrap .i64 ((wrap .i64 (c.getD a.toNat 0)) - d)) - (wrap .i64 (e.getD a.toNat 0))))<0)then if decide (0<=a)then if decide (a<(f.length:Int))then g2 (wrap .i64 (a+1),b,c,1,e,f.set (0+a.toNat) (wrap .u32 (wrap .i64 ((wrap .i64 ((wrap .i64 (c.getD a.toNat 0)) - d)) - (wrap .i64 (e.getD a.toNat 0))))),())else none else none else if decide (0<=a)then if decide (a<(f.length:Int))then g2 (wrap .i64 (a+1),b,c,0,e,f.set (0+a.toNat) (wrap .u32 (wrap .i64 ((wrap .i64 ((wrap .i64 (c.getD a.toNat 0)) - d)) - (wrap .i64 (e.getD a.toNat 0))))),())else none else none else none else none else if decide ((wrap .i64 ((wrap .i64 (c.getD a.toNat 0)) - d))<0)then if decide (0<=a)then if decide (a<(f.length:Int))then g2 (wrap .i64 (a+1),b,c,1,e,f.set (0+a.toNat) (wrap .u32 (wrap .i64 ((wrap .i64 (c.getD a.toNat 0)) - d))),())else none else none else if decide (0<=a)then if decide (a<(f.length:Int))then g2 (wrap .i64 (a+1),b,c,0,e,f.set (0+a.toNat) (wrap .u32 (wrap .i64 ((wrap .i64 (c.getD a.toNat 0)) - d))),())else none else none else none else none else(S.a3u (f,())).bind fun y3=>some (y3.1,())) x1.1 x1.2.1 x1.2.2.2.1 x1.2.2.1 x1.2.2.2.2.1 x1.2.2.2.2.2.1
def P.d3x (k:Nat) (x:List Int×List Int×Unit):Option (List Int×Unit):=
 if decide (0<=(x.1.length:Int))then if decide ((x.1.length:Int)<=(x.1.length:Int))then if decide (((x.1.length:Int)*4)<=281474976710656)then loopP P.b6c k (0,(x.1.length:Int),x.1,0,x.2.1,List.replicate (Int.toNat (x.1.length:Int)) 0,())else none else none else none
def S.b0d (x:((List Int)×((List Int)×Unit))):(Option ((List Int)×Unit)):=if dig B32 x.1=true/\dig B32 x.2.1=true/\x.2.1.length<=x.1.length/\a0c B32 x.2.1<=a0c B32 x.1/\x.1.length<=10000000000 then some (nd B32 (a0c B32 x.1 - a0c B32 x.2.1),())else none
theorem S.e7e (x r) (h:S.b0d x=some r):∃k,P.d3x k x=some r:=by
 obtain⟨xs,ys,u⟩:=x;unfold S.b0d at h;dsimp only at h;split at h
 case isFalse=>cases h
 rename_i hc;obtain⟨dx,dy,hl,hv,lx⟩:=hc;cases h;refine⟨xs.length+1,?_⟩;unfold P.d3x;dsimp only;have a1:(0:Int)<=(xs.length:Int):=by omega
 have a2:(xs.length:Int)*4<=281474976710656:=by omega
 simp only[a1,a2,decide_true,if_true,Int.le_refl,Int.toNat_natCast];have key:=a0f (k:=xs.length+1) (b:=P.b6c) (n:=xs.length) (st:=fun i=>((i:Int),(xs.length:Int),xs,((a2i B32 1 xs ys i).2.2:Int),ys,(a2i B32 1 xs ys i).1++List.replicate (xs.length - i) 0,())) (F:=fun i=>some (nd B32 (a0c B32 xs - a0c B32 ys),())) (fun i g hi hg=>by
  unfold P.b6c;dsimp only at hg ⊢;refine Eq.trans ?_ hg;clear hg;obtain⟨q1,q2,q3,q4,q5⟩:=b9q (t:=1) a0e dx dy i;have gx:=a1b (B:=B32) (by decide) dx i;have gy:=a1b (B:=B32) (by decide) dy i;have gx1:xs.getD i 0<4294967296:=gx.2;have gy1:ys.getD i 0<4294967296:=gy.2;have gx0:=gx.1;have gy0:=gy.1;have hlen:((a2i B32 1 xs ys i).1++List.replicate (xs.length - i) (0:Int)).length=xs.length:=by rw[List.length_append,q2,List.length_replicate];omega
  have e1:(i:Int)<(xs.length:Int):=by omega
  have e2:(0:Int)<=(i:Int):=by omega
  rw[hlen];simp only[e1,e2,decide_true,if_true,Nat.zero_add,Int.toNat_natCast];have hrep:List.replicate (xs.length - i) (0:Int)=0::List.replicate (xs.length - (i+1)) 0:=by
   rw[show xs.length - i=(xs.length - (i+1))+1 by omega,List.replicate_succ]
  rw[hrep];simp only[b3e q2];rw[(d7m a0e (xs:=xs) dy i).2];dsimp only;have y0:¬((i:Int)<(ys.length:Int))->ys.getD i 0=0:=by
   intro hj;rw[List.getD_eq_getElem?_getD,List.getElem?_eq_none (by omega)];rfl
  generalize (a2i B32 1 xs ys i).1=pl at*;generalize (a2i B32 1 xs ys i).2.2=l0 at*;obtain⟨x,hx⟩:∃x,xs.getD i 0=x:=⟨_,rfl⟩
  obtain⟨y,hy⟩:∃y,ys.getD i 0=y:=⟨_,rfl⟩
  simp only[hx,hy]at gx1 gx0 gy1 gy0 y0 ⊢;have hB:((B32:Nat):Int)=4294967296:=rfl;rw[wr (x:=(i:Int)+1) (by omega) (by omega),wr (x:=x) (by omega) (by omega),wr (x:=x - (l0:Int)) (by omega) (by omega),hB]
  by_cases hj:(i:Int)<(ys.length:Int)
  ·rw[if_pos (decide_eq_true hj),if_pos (decide_eq_true hj),wr (x:=y) (by omega) (by omega),wr (x:=x - (l0:Int) - y) (by omega) (by omega),c3u,show x - (l0:Int) - y=x - y - (l0:Int) by omega]
   by_cases hn:x - y - (l0:Int)<0
   ·rw[if_pos (decide_eq_true hn),if_pos hn];rfl
   ·rw[if_neg (by simpa using hn),if_neg hn];rfl
  ·have hy0:=y0 hj;subst hy0;rw[if_neg (by simpa using hj),c3u,show x - 0 - (l0:Int)=x - (l0:Int) by omega]
   by_cases hn:x - (l0:Int)<0
   ·rw[if_pos (decide_eq_true hn),if_pos hn];rfl
   ·rw[if_neg (by simpa using hn),if_neg hn];rfl) (fun g=>by
  unfold P.b6c;dsimp only;rw[if_neg (by simp),Nat.sub_self,show List.replicate 0 (0:Int)=[]from rfl,List.append_nil,e4o a0e dx dy hl hv];unfold S.a3u;dsimp only;have hb:=a1n dx;rw[if_pos ⟨b5u (by decide) _ _,by rw[a3c];omega⟩,Option.bind_some,f4u a0e (by omega)]) (by omega)
 exact key
def P.e1p (k:Nat) (x:Bool×List Int×List Int×Unit):Option (RB×Unit):=
 if(x.2.1.length:Int)==0 then(S.a3d (1,())).bind fun y0=>some ((false,[],y0.1),())else(S.a5s (x.2.1,x.2.2.1,())).bind fun y1=>if(y1.1.length:Int)==1 then if decide (0<(y1.1.length:Int))then if(y1.1.getD 0 0)==1 then some ((x.1,x.2.1,x.2.2.1),())else(S.a5a (x.2.1,y1.1,())).bind fun y2=>(S.a5a (x.2.2.1,y1.1,())).bind fun y3=>some ((x.1,y2.1.1,y3.1.1),())else none else(S.a5a (x.2.1,y1.1,())).bind fun y4=>(S.a5a (x.2.2.1,y1.1,())).bind fun y5=>some ((x.1,y4.1.1,y5.1.1),())
def S.a5m (x:(Bool×((List Int)×((List Int)×Unit)))):(Option (RB×Unit)):=if a2r B32 x.2.1=true/\a2r B32 x.2.2.1=true/\x.2.2.1≠ []/\x.2.1.length<=100000000/\x.2.2.1.length<=100000000 then some (rp B32 (c1f x.1 (a0c B32 x.2.1) (a0c B32 x.2.2.1)),())else none
theorem S.f1j (x r) (h:S.a5m x=some r):∃k,P.e1p k x=some r:=by
 obtain⟨neg,as,bs',u⟩:=x;unfold S.a5m at h;dsimp only at h;split at h
 case isFalse=>cases h
 rename_i hc;obtain⟨ca,cb,hne,la,lb⟩:=hc;cases h;refine⟨0,?_⟩;unfold P.e1p;dsimp only;have hb0:a0c B32 bs'≠0:=fun e=>hne ((a9t a0e cb).2 e)
 by_cases ha:as=[]
 ·subst ha;rw[if_pos (by rfl)];unfold S.a3d c1f rp;dsimp only;rw[if_pos ⟨by decide,by decide⟩,Option.bind_some,show a0c B32 []=0 from rfl,Nat.gcd_zero_left,Nat.zero_div,Nat.div_self (by omega),a1t a0e];simp
 ·have ha0:a0c B32 as≠0:=fun e=>ha ((a9t a0e ca).2 e)
  rw[if_neg (by simpa using ha)];have hg:=f8z a0e ca cb hb0;have hgp:0<Nat.gcd (a0c B32 as) (a0c B32 bs'):=Nat.gcd_pos_of_pos_right _ (by omega);have e1:S.a5s (as,(bs',()))=some (nd B32 (Nat.gcd (a0c B32 as) (a0c B32 bs')),()):=by
   unfold S.a5s;exact if_pos ⟨ca,cb,la,lb⟩
  rw[e1,Option.bind_some];dsimp only;unfold c1f rp;dsimp only;rw[decide_eq_true ha0,Bool.and_true];have hgne:nd B32 (Nat.gcd (a0c B32 as) (a0c B32 bs'))≠ []:=by
   rw[b4y a0e (by omega)];simp
  have hgd:a0c B32 (nd B32 (Nat.gcd (a0c B32 as) (a0c B32 bs')))=Nat.gcd (a0c B32 as) (a0c B32 bs'):=a0i a0e _;have hgc:a2r B32 (nd B32 (Nat.gcd (a0c B32 as) (a0c B32 bs')))=true:=a0m a0e _;have e2:∀xs,a2r B32 xs=true->xs.length<=100000000->S.a5a (xs,(nd B32 (Nat.gcd (a0c B32 as) (a0c B32 bs')),()))=some ((nd B32 (a0c B32 xs/Nat.gcd (a0c B32 as) (a0c B32 bs')),nd B32 (a0c B32 xs%Nat.gcd (a0c B32 as) (a0c B32 bs'))),()):=by
   intro xs cx lx;unfold S.a5a;dsimp only;rw[if_pos ⟨cx,hgc,hgne,lx,by omega⟩,hgd]
  rw[e2 as ca la,Option.bind_some,e2 bs' cb lb,Option.bind_some];dsimp only;have hone:nd B32 (Nat.gcd (a0c B32 as) (a0c B32 bs'))=[1]->as=nd B32 (a0c B32 as/Nat.gcd (a0c B32 as) (a0c B32 bs'))/\bs'=nd B32 (a0c B32 bs'/Nat.gcd (a0c B32 as) (a0c B32 bs')):=by
   intro e;rw[e,b8a]at hgd;rw[<-hgd,Nat.div_one,Nat.div_one,a1d ca,a1d cb];exact⟨rfl,rfl⟩
  generalize hgl:nd B32 (Nat.gcd (a0c B32 as) (a0c B32 bs'))=gl at*
  by_cases h1:gl.length=1
  ·have d1:(((gl.length:Nat):Int)==(1:Int))=true:=by simp [h1]
   have d2:(0:Int)<(gl.length:Int):=by omega
   rw[if_pos d1,if_pos (decide_eq_true d2)];obtain⟨g0,rfl⟩:∃g0,gl=[g0]:=by
    match gl,h1 with
    | [g0],_=>exact⟨g0,rfl⟩
   by_cases h2:g0=1
   ·subst h2;rw[if_pos (by rfl),<-(hone rfl).1,<-(hone rfl).2]
   ·rw[if_neg (by simpa using h2)]
  ·have d1:¬(((gl.length:Nat):Int)==(1:Int))=true:=by simp;omega
   rw[if_neg d1]
end Go.Cm
end
