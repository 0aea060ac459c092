import Derived.Test.YtjacdajcppcdlaaGreatDoorPlVisitsBefored
set_option linter.unusedVariables false
set_option maxRecDepth 100000
noncomputable section
namespace Go.Cm
open IntKind (wrap)
def P.c2w (k:Nat) (x:List ByteArray×Unit):Option ((List RB×Bool)×Unit):=
 (S.e3l (x.1,())).bind fun y0=>if !y0.1.2 then some (([],false),())else(S.a0w (y0.1.1,(),())).bind fun y1=>if y1.1 then some (([],false),())else(S.i_sum (y0.1.1,())).bind fun y2=>(S.a4k ((y2.1.1,y2.1.2.1,y2.1.2.2),())).bind fun y3=>if !y3.1 then some (([],false),())else some ((y0.1.1,true),())
def S.b1g (x:((List ByteArray)×Unit)):(Option (((List RB)×Bool)×Unit)):=if okT x.1=true then some (((c1s x.1).1.map (rp B32),(c1s x.1).2),())else none
theorem S.d6u (x r) (h:S.b1g x=some r):∃k,P.c2w k x=some r:=by
 obtain⟨ls,u⟩:=x;unfold S.b1g at h;dsimp only at h;split at h
 case isFalse=>cases h
 rename_i hc;cases h;refine⟨0,?_⟩;unfold P.c2w S.e3l;dsimp only;rw[if_pos hc,Option.bind_some];dsimp only;unfold c1s;have hg:=d8f (ls:=ls);have hL:=d4i (B:=B32) (ls:=ls);cases hf:(a2u ls).2
 ·rfl
 have hg':=hg hf;have hL':=hL hf;rw[if_neg (by decide)];have ea:S.a0w ((a2u ls).1.map (rp B32),(),())=some ((a2u ls).1.any fun r=>r.1,()):=by
  unfold S.a0w;dsimp only;rw[if_pos hL',any_rp]
 have es:S.i_sum ((a2u ls).1.map (rp B32),())=some (rp B32 (b7b (a2u ls).1),()):=by
  unfold S.i_sum;dsimp only;rw[if_pos (goodL_S hL'),b8z a0e]
 have eo:S.a4k (rp B32 (b7b (a2u ls).1),())=some (c0n (b7b (a2u ls).1),()):=by
  unfold S.a4k;dsimp only;rw[a3q a0e,if_pos ⟨good_rok (by decide) hg',low_qok (good_sum hg').1⟩]
 rw[ea,Option.bind_some];dsimp only;unfold isW;cases hm:((a2u ls).1.any fun r=>r.1)
 ·rw[if_neg (by decide),es,Option.bind_some];show Option.bind (S.a4k (rp B32 (b7b (a2u ls).1),())) _=_;rw[eo,Option.bind_some];cases ho:c0n (b7b (a2u ls).1)
  ·rfl
  ·simp [hf]
 ·rfl
abbrev i_chainOf.A:=Int×Int×List (List ByteArray)×List (List ByteArray)×List (List RB)×Unit
abbrev i_chainOf.B:=Option ((List (List RB)×Bool)×Unit)
abbrev P.b5t (x1:i_chainOf.A) (g2:i_chainOf.A->i_chainOf.B):i_chainOf.B:=
 if decide (x1.1<x1.2.1)then if decide (0<=x1.1)then if decide (x1.1<(x1.2.2.1.length:Int))then(S.b1g (x1.2.2.1.getD x1.1.toNat [],())).bind fun y3=>if !y3.1.2 then some (([],false),())else if(y3.1.1.length:Int) != (x1.2.2.2.1.length:Int)then some (([],false),())else if decide (((x1.2.2.2.2.1.length+(List.length [y3.1.1]))*24)<=140737488355328)then g2 (wrap .i64 (x1.1+1),x1.2.1,x1.2.2.1,x1.2.2.2.1,x1.2.2.2.2.1++[y3.1.1],())else none else none else none else some ((x1.2.2.2.2.1,true),())
def P.d3w (k:Nat) (x:List (List ByteArray)×Unit):i_chainOf.B:=
 if decide ((x.1.length:Int)<1)then some (([],false),())else if decide ((x.1.length:Int)>12)then some (([],false),())else loopP P.b5t k (0,(x.1.length:Int),x.1,x.1,[],())
def S.b6u (x:((List (List ByteArray))×Unit)):(Option (((List (List RB))×Bool)×Unit)):=if x.1.all okT=true then some (((chQ x.1).1.map (fun r=>r.map (rp B32)),(chQ x.1).2),())else none
theorem S.i_chainOf_ok (x r) (h:S.b6u x=some r):∃k,P.d3w k x=some r:=by
 obtain⟨rows,u⟩:=x;unfold S.b6u at h;dsimp only at h;split at h
 case isFalse=>cases h
 rename_i hc;cases h;refine⟨rows.length+1,?_⟩;unfold P.d3w chQ;dsimp only
 by_cases h1:1<=rows.length
 case neg=>
  rw[if_pos (decide_eq_true (show(rows.length:Int)<1 by omega)),decide_eq_false h1];rfl
 rw[if_neg (by simpa using(show ¬(rows.length:Int)<1 by omega)),decide_eq_true h1]
 by_cases h2:rows.length<=12
 case neg=>
  rw[if_pos (decide_eq_true (show(rows.length:Int)>12 by omega)),decide_eq_false h2];rfl
 rw[if_neg (by simpa using(show ¬(rows.length:Int)>12 by omega)),decide_eq_true h2];simp only[Bool.true_and];have key:=a0f (k:=rows.length+1) (b:=P.b5t) (n:=rows.length) (st:=fun i=>((i:Int),(rows.length:Int),rows,rows,(rows.take i).map (fun r=>(a2u r).1.map (rp B32)),())) (F:=fun i=>some (if((rows.drop i).all fun r=>decide (r.length=rows.length)&&(c1s r).2)=true then(rows.map (fun r=>(a2u r).1.map (rp B32)),true)else([],false),())) (fun i g hi hg'=>by
  have e1:(i:Int)<(rows.length:Int):=by omega
  have e2:(0:Int)<=(i:Int):=by omega
  have hr:okT rows[i]=true:=List.all_eq_true.1 hc _ (List.getElem_mem hi);have e4:(((rows.take i).map (fun r=>(a2u r).1.map (rp B32))).length+1)*24<=140737488355328:=by
   rw[List.length_map,List.length_take];omega
  unfold P.b5t;dsimp only at hg' ⊢;simp only[e1,e2,decide_true,if_true];rw[a0o rows i _ hi,List.drop_eq_getElem_cons hi,List.all_cons];have ew:S.b1g (rows[i],())=some (((c1s rows[i]).1.map (rp B32),(c1s rows[i]).2),()):=by
   unfold S.b1g;exact if_pos hr
  rw[ew,Option.bind_some];dsimp only;cases hw:(c1s rows[i]).2
  ·rw[if_pos (by decide),Bool.and_false,Bool.false_and,if_neg (by decide)]
  obtain⟨w1,w2,w3⟩:=wtAll_ok hw;have w4:=(d0f w1).1;rw[if_neg (by decide),w3,List.length_map,w4,Bool.and_true]
  by_cases hl:rows[i].length=rows.length
  case neg=>
   rw[if_pos (by simp;omega),decide_eq_false hl,Bool.false_and,if_neg (by decide)]
  rw[if_neg (by simp;omega),decide_eq_true hl,Bool.true_and];simp only[List.length_cons,List.length_nil,Nat.zero_add];rw[if_pos (decide_eq_true e4),wr (by omega) (by omega),<-hg',List.take_add_one,List.getElem?_eq_getElem hi,Option.toList_some,List.map_append];rfl) (fun g=>by
  unfold P.b5t;dsimp only;rw[if_neg (by simp),List.take_length,List.drop_length];rfl) (by omega)
 rw[List.drop_zero]at key;refine Eq.trans key ?_
 by_cases ha:(rows.all fun r=>decide (r.length=rows.length)&&(c1s r).2)=true
 ·rw[if_pos ha,if_pos ha,List.map_map];rfl
 ·rw[if_neg ha,if_neg ha];rfl
abbrev i_targetsOf.A:=Int×Int×List Int×List (List RB)×List Int×List Bool×Unit
abbrev P.b1v (x1:i_targetsOf.A) (g2:i_targetsOf.A->Option ((List Bool×Bool)×Unit)):Option ((List Bool×Bool)×Unit):=
 (fun(a b:Int) (c e:List Int) (d:List (List RB)) (f:List Bool)=>if decide (a<b)then if decide (0<=a)then if decide (a<(c.length:Int))then(S.b4o (d,c.getD a.toNat 0,())).bind fun y3=>if !y3.1 then some (([],false),())else if decide (a>0)then if decide (0<=(wrap .i64 (a - 1)))then if decide ((wrap .i64 (a - 1))<(e.length:Int))then if decide ((e.getD (Int.toNat (wrap .i64 (a - 1))) 0)>=(c.getD a.toNat 0))then some (([],false),())else if decide (0<=(c.getD a.toNat 0))then if decide ((c.getD a.toNat 0)<(f.length:Int))then g2 (wrap .i64 (a+1),b,c,d,e,f.set (0+(Int.toNat (c.getD a.toNat 0))) true,())else none else none else none else none else if decide (0<=(c.getD a.toNat 0))then if decide ((c.getD a.toNat 0)<(f.length:Int))then g2 (wrap .i64 (a+1),b,c,d,e,f.set (0+(Int.toNat (c.getD a.toNat 0))) true,())else none else none else none else none else some ((f,decide ((e.length:Int)>0)),())) x1.1 x1.2.1 x1.2.2.1 x1.2.2.2.2.1 x1.2.2.2.1 x1.2.2.2.2.2.1
def P.c2x (k:Nat) (x:List (List RB)×List Int×Unit):Option ((List Bool×Bool)×Unit):=
 if decide (0<=(x.1.length:Int))then if decide ((x.1.length:Int)<=(x.1.length:Int))then if decide (((x.1.length:Int)*1)<=281474976710656)then loopP P.b1v k (0,(x.2.1.length:Int),x.2.1,x.1,x.2.1,List.replicate (Int.toNat (x.1.length:Int)) false,())else none else none else none
def S.b1h (x:((List (List RB))×((List Int)×Unit))):(Option (((List Bool)×Bool)×Unit)):=if 1<=x.1.length/\x.1.length<=12/\x.2.1.length<=1000000000000000 then some ((if risB x.2.1 0 ((x.1.length:Int) - 1)=true then(tab x.1.length (tgF x.2.1),decide ((x.2.1.length:Int)>0))else([],false)),())else none
theorem S.d6v (x r) (h:S.b1h x=some r):∃k,P.c2x k x=some r:=by
 obtain⟨m,ts,u⟩:=x;unfold S.b1h at h;dsimp only at h;split at h
 case isFalse=>cases h
 rename_i hc;obtain⟨hm0,hm,hc⟩:=hc;cases h;refine⟨ts.length+1,?_⟩;unfold P.c2x risB;dsimp only;have a1:(0:Int)<=(m.length:Int):=by omega
 have a2:(m.length:Int)*1<=281474976710656:=by omega
 rw[if_pos (decide_eq_true a1),if_pos (by simp),if_pos (decide_eq_true a2),Int.toNat_natCast];have key:=a0f (k:=ts.length+1) (b:=P.b1v) (n:=ts.length) (st:=fun i=>((i:Int),(ts.length:Int),ts,m,ts,tab m.length (tgF (ts.take i)),())) (F:=fun i=>some ((if((List.range ts.length).drop i).all (rs1 ts 0 ((m.length:Int) - 1))=true then(tab m.length (tgF ts),decide ((ts.length:Int)>0))else([],false)),())) (fun i g hi' hg=>by
  unfold P.b1v;dsimp only at hg ⊢;have e1:(i:Int)<(ts.length:Int):=by omega
  have e2:(0:Int)<=(i:Int):=by omega
  rw[all_drop _ hi'];unfold rs1 at hg ⊢;unfold S.b4o P.b9k S.i_in P.i_in;dsimp only;simp only[Int.toNat_natCast,a0s,e1,e2,decide_true,if_true];rw[wr (x:=(m.length:Int) - 1) (by omega) (by omega)];have ht:ts.getD i 0=ts[i]:=by rw[List.getD_eq_getElem?_getD,List.getElem?_eq_getElem hi'];rfl
  by_cases h1:0<=ts.getD i 0
  case neg=>
   rw[if_neg (by simpa using h1),Option.bind_some,Option.bind_some,decide_eq_false h1];rfl
  rw[if_pos (by simpa using h1),Option.bind_some,Option.bind_some,decide_eq_true h1,Bool.true_and]
  by_cases h2:ts.getD i 0<=(m.length:Int) - 1
  case neg=>
   rw[decide_eq_false h2];rfl
  have hset:(tab m.length (tgF (ts.take i))).set (ts.getD i 0).toNat true=tab m.length (tgF (ts.take (i+1))):=by
   rw[b6g];apply a0p;intro j hj;unfold tgF;rw[<-List.take_append_getElem hi',<-ht]
   by_cases q:j=(ts.getD i 0).toNat
   ·rw[if_pos q];have:(j:Int)=ts.getD i 0:=by omega
    rw[this];simp
   ·rw[if_neg q,decide_eq_decide,List.mem_append,List.mem_singleton];constructor
    ·exact Or.inl
    ·rintro (z|z)
     ·exact z
     ·exact absurd (by omega) q
  have e7:ts.getD i 0<(m.length:Int):=by omega
  rw[decide_eq_true h2,if_neg (by decide),Bool.true_and]
  by_cases h0:i=0
  ·rw[if_neg (by simp [h0]),decide_eq_true h0,wr (by omega) (by omega),if_pos (decide_eq_true e7),Nat.zero_add,hset];simp only[Bool.true_or,Bool.true_and];exact hg
  ·have e3:(i:Int)>0:=by omega
   have e4:(0:Int)<=(i:Int) - 1:=by omega
   have e5:(i:Int) - 1<(ts.length:Int):=by omega
   have e6:((i:Int) - 1).toNat=i - 1:=by omega
   rw[if_pos (decide_eq_true e3),wr (x:=(i:Int) - 1) (by omega) (by omega),if_pos (decide_eq_true e4),if_pos (decide_eq_true e5),e6,decide_eq_false h0,Bool.false_or,wr (x:=(i:Int)+1) (by omega) (by omega)]
   by_cases h3:ts.getD (i - 1) 0<ts.getD i 0
   ·rw[if_neg (by simpa using h3),decide_eq_true h3,Bool.true_and,if_pos (decide_eq_true e7),Nat.zero_add,hset];exact hg
   ·rw[if_pos (by simpa using h3),decide_eq_false h3];rfl) (fun g=>by
  unfold P.b1v;dsimp only;rw[if_neg (by simp),List.drop_eq_nil_of_le (by simp),List.take_length];rfl) (by omega)
 rw[List.drop_zero]at key;refine Eq.trans ?_ key;rw[c6n];have:(tab m.length fun _=>false)=tab m.length (tgF (ts.take 0)):=a0p fun j hj=>by
  unfold tgF;simp
 rw[this];rfl
def P.a7i (k:Nat) (x:List (List ByteArray)×List Int×Unit):Option ((List (List RB)×List Bool×Bool)×Unit):=
 (S.b6u (x.1,())).bind fun y0=>if !y0.1.2 then some (([],[],false),())else(S.b1h (y0.1.1,x.2.1,())).bind fun y1=>some ((y0.1.1,y1.1.1,y1.1.2),())
def S.a7j (x:((List (List ByteArray))×((List Int)×Unit))):(Option (((List (List RB))×((List Bool)×Bool))×Unit)):=P.a7i 0 x
theorem S.c1r (x r) (h:S.a7j x=some r):∃k,P.a7i k x=some r:=⟨0,h⟩
abbrev P.b8l (x1:Int×Int×List (List RB)×Int×Unit) (g2:Int×Int×List (List RB)×Int×Unit->Option (List (List RB)×Unit)):Option (List (List RB)×Unit):=
 if decide (x1.1<x1.2.1)then(S.a2l (0,())).bind fun y3=>(S.a0j ([(y3.1.1,y3.1.2.1,y3.1.2.2)],x1.2.2.2.1,())).bind fun y4=>if decide (0<=x1.1)then if decide (x1.1<(x1.2.2.1.length:Int))then g2 (wrap .i64 (x1.1+1),x1.2.1,x1.2.2.1.set (0+x1.1.toNat) y4.1,x1.2.2.2.1,())else none else none else some (x1.2.2.1,())
def P.e1z (k:Nat) (x:Int×Unit):Option (List (List RB)×Unit):=
 if decide (0<=x.1)then if decide (x.1<=x.1)then if decide ((x.1*24)<=281474976710656)then loopP P.b8l k (0,(List.length (List.replicate x.1.toNat ([]:List RB)):Int),List.replicate x.1.toNat ([]:List RB),x.1,())else none else none else none
def S.c1b (x:(Int×Unit)):(Option ((List (List RB))×Unit)):=if 0<=x.1/\x.1<=12 then some (mp B32 (tab x.1.toNat fun _=>tab x.1.toNat fun _=>a0q),())else none
theorem S.i_zerosd_ok (x r) (h:S.c1b x=some r):∃k,P.e1z k x=some r:=by
 obtain⟨z,u⟩:=x;unfold S.c1b at h;dsimp only at h;split at h
 case isFalse=>cases h
 rename_i hc;obtain⟨n,rfl⟩:=Int.eq_ofNat_of_zero_le hc.1;have hn:n<=12:=by omega
 rw[Int.toNat_natCast]at h;cases h;refine⟨13,?_⟩;unfold P.e1z;dsimp only;have a1:(0:Int)<=(n:Int):=by omega
 have a2:(n:Int)*24<=281474976710656:=by omega
 rw[if_pos (decide_eq_true a1),if_pos (by simp),if_pos (decide_eq_true a2),Int.toNat_natCast,List.length_replicate];have hz:S.a2l (0,())=some (rp B32 a0q,()):=by rfl
 have er:S.a0j ([((rp B32 a0q).1,(rp B32 a0q).2.1,(rp B32 a0q).2.2)],(n:Int),())=some (List.replicate n (rp B32 a0q),()):=by
  unfold S.a0j;dsimp only;rw[if_pos ⟨rfl,by omega,by omega⟩,Int.toNat_natCast];rfl
 have key:=a0f (k:=13) (b:=P.b8l) (n:=n) (st:=fun i=>((i:Int),(n:Int),(tab n fun j=>if j<i then List.replicate n (rp B32 a0q)else []),(n:Int),())) (F:=fun _=>some (mp B32 (tab n fun _=>tab n fun _=>a0q),())) (fun i g hi hg=>by
  unfold P.b8l;dsimp only at hg ⊢;have e1:(i:Int)<(n:Int):=by omega
  have e2:(0:Int)<=(i:Int):=by omega
  rw[if_pos (decide_eq_true e1),hz,Option.bind_some];dsimp only;rw[er,Option.bind_some,if_pos (decide_eq_true e2),a0s,if_pos (decide_eq_true e1),wr (by omega) (by omega),Nat.zero_add,Int.toNat_natCast,b6g];have:(tab n fun j=>if j=i then List.replicate n (rp B32 a0q)else if j<i then List.replicate n (rp B32 a0q)else [])=tab n fun j=>if j<i+1 then List.replicate n (rp B32 a0q)else []:=a0p fun j _=>by
   by_cases q:j=i
   ·rw[if_pos q,if_pos (by omega)]
   ·rw[if_neg q]
    by_cases q2:j<i
    ·rw[if_pos q2,if_pos (by omega)]
    ·rw[if_neg q2,if_neg (by omega)]
  rw[this];exact hg) (fun g=>by
  unfold P.b8l;dsimp only;rw[if_neg (by simp)];have:(tab n fun j=>if j<n then List.replicate n (rp B32 a0q)else [])=mp B32 (tab n fun _=>tab n fun _=>a0q):=by
   unfold mp;rw[a8q];apply a0p;intro j hj;rw[if_pos hj,c6n,a8q]
  rw[this]) (by omega)
 refine Eq.trans ?_ key;have:(tab n fun j=>if j<0 then List.replicate n (rp B32 a0q)else [])=List.replicate n []:=by
  refine Eq.trans ?_ (c6n n _).symm;apply a0p;intro j _;rw[if_neg (by omega)]
 rw[this];rfl
abbrev i_onWay.A:=Int×Int×List Bool×List (List RB)×List (List RB)×Int×Unit
abbrev i_onWay.B:=Option (List Int×Unit)
abbrev P.c1c (x6:Int×Int×List Bool×List Bool×List Int×Unit) (g7:Int×Int×List Bool×List Bool×List Int×Unit->i_onWay.B):i_onWay.B:=
 (fun(a b:Int) (c d:List Bool) (e:List Int)=>if decide (a<b)then if decide (0<=a)then if decide (a<(c.length:Int))then if c.getD a.toNat false then if decide (0<=a)then if decide (a<(d.length:Int))then if ! (d.getD a.toNat false)then if decide (((e.length+(List.length [a]))*8)<=140737488355328)then g7 (wrap .i64 (a+1),b,c,d,e++[a],())else none else g7 (wrap .i64 (a+1),b,c,d,e,())else none else none else g7 (wrap .i64 (a+1),b,c,d,e,())else none else none else some (e,())) x6.1 x6.2.1 x6.2.2.1 x6.2.2.2.1 x6.2.2.2.2.1
abbrev P.c1d (k:Nat) (x2:i_onWay.A) (g3:i_onWay.A->i_onWay.B):i_onWay.B:=
 (fun(a b f:Int) (c:List Bool) (d e:List (List RB))=>if decide (a<b)then if decide (0<=a)then if decide (a<(c.length:Int))then if ! (c.getD a.toNat false)then if decide (0<=a)then if decide (a<(e.length:Int))then if decide (0<=a)then if decide (a<(d.length:Int))then g3 (wrap .i64 (a+1),b,c,d.set (0+a.toNat) (e.getD a.toNat []),e,f,())else none else none else none else none else g3 (wrap .i64 (a+1),b,c,d,e,f,())else none else none else(S.b7h (d,f,())).bind fun y4=>loopP P.c1c k (0,(y4.1.length:Int),y4.1,c,[],())) x2.1 x2.2.1 x2.2.2.2.2.2.1 x2.2.2.1 x2.2.2.2.1 x2.2.2.2.2.1
def P.i_onWay (k:Nat) (x:List (List RB)×Int×List Bool×Unit):i_onWay.B:=
 (S.c1b ((x.1.length:Int),())).bind fun y0=>loopP (P.c1d k) k (0,(x.1.length:Int),x.2.2.1,y0.1,x.1,x.2.1,())
open Classical in
def S.c7e (x:((List (List RB))×(Int×((List Bool)×Unit)))):(Option ((List Int)×Unit)):=if ∃M,b2a M/\x.1=mp B32 M/\0<=x.2.1/\x.2.1<(M.length:Int)/\x.2.2.1.length=M.length then some (zs (fl (cW (mv B32 x.1) (fun j=>x.2.2.1.getD j false) x.2.1.toNat) x.1.length),())else none
theorem S.i_onWay_ok (x r) (h:S.c7e x=some r):∃k,P.i_onWay k x=some r:=by
 obtain⟨m,z,T,u⟩:=x;unfold S.c7e at h;dsimp only at h;split at h
 case isFalse=>cases h
 rename_i hc;obtain⟨M,hM,rfl,hz0,hz1,hT⟩:=hc;rw[b8s (by decide),a2y]at h;obtain⟨s,rfl⟩:=Int.eq_ofNat_of_zero_le hz0;have hs:s<M.length:=by omega
 have hTt:T=tab M.length fun j=>T.getD j false:=by
  rw[<-hT];exact tab_of T false
 generalize (fun j=>T.getD j false)=tg at*;subst hTt;rw[Int.toNat_natCast]at h;cases h;have hI:=hM.2.1;have hn:=hI.1;refine⟨13,?_⟩;unfold P.i_onWay;dsimp only;have ez:S.c1b ((M.length:Int),())=some (mp B32 (tab M.length fun _=>tab M.length fun _=>a0q),()):=by
  unfold S.c1b;dsimp only;rw[if_pos ⟨by omega,by omega⟩,Int.toNat_natCast]
 rw[a2y,ez,Option.bind_some];have key:=a0f (k:=13) (b:=P.c1d 13) (n:=M.length) (st:=fun i=>((i:Int),(M.length:Int),tab M.length tg,mp B32 (tab M.length fun j=>if j<i/\tg j=false then M.getD j []else tab M.length fun _=>a0q),mp B32 M,(s:Int),())) (F:=fun _=>some (zs (fl (cW M tg s) M.length),())) (fun i g hi hg=>by
  unfold P.c1d;dsimp only at hg ⊢;have e1:(i:Int)<(M.length:Int):=by omega
  have e2:(0:Int)<=(i:Int):=by omega
  have e11:(tab M.length tg).getD i false=tg i:=a8j _ _ hi;simp only[Int.toNat_natCast,Nat.zero_add,a0s,a2y,e1,e2,e11,decide_true,if_true];rw[wr (by omega) (by omega)];cases ht:tg i
  ·rw[if_pos (by decide),mp_at hi,mp_set];have:(tab M.length fun j=>if j=i then M.getD i []else if j<i/\tg j=false then M.getD j []else tab M.length fun _=>a0q)=tab M.length fun j=>if j<i+1/\tg j=false then M.getD j []else tab M.length fun _=>a0q:=a0p fun j _=>by
    by_cases q:j=i
    ·rw[if_pos q,q,if_pos ⟨by omega,ht⟩]
    ·rw[if_neg q]
     by_cases q2:j<i/\tg j=false
     ·rw[if_pos q2,if_pos ⟨by omega,q2.2⟩]
     ·rw[if_neg q2,if_neg (fun w=>q2 ⟨by omega,w.2⟩)]
   rw[this];exact hg
  ·have:(tab M.length fun j=>if j<i/\tg j=false then M.getD j []else tab M.length fun _=>a0q)=tab M.length fun j=>if j<i+1/\tg j=false then M.getD j []else tab M.length fun _=>a0q:=a0p fun j _=>by
    by_cases q2:j<i/\tg j=false
    ·rw[if_pos q2,if_pos ⟨by omega,q2.2⟩]
    ·rw[if_neg q2,if_neg (fun w=>by
      by_cases q:j=i
      ·rw[q,ht]at w;exact absurd w.2 (by decide)
      ·exact q2 ⟨by omega,w.2⟩)]
   rw[if_neg (by decide),this];exact hg) (fun g=>by
  unfold P.c1d;dsimp only;have hZ:(tab M.length fun j=>if j<M.length/\tg j=false then M.getD j []else tab M.length fun _=>a0q)=zM M tg:=by
   unfold zM;apply a0p;intro j hj;cases tg j
   ·rw[if_pos ⟨hj,rfl⟩,if_neg (by decide)]
   ·rw[if_neg (by simp),if_pos rfl]
  have er:S.b7h (mp B32 (zM M tg),(s:Int),())=some (b4z (adj (zM M tg)) (zM M tg).length s,()):=by
   unfold S.b7h;dsimp only;rw[if_pos ⟨⟨_,zm_isM hM tg,rfl⟩,by omega,by rw[a2y,d2r];omega⟩,b8s (by decide),a2y,Int.toNat_natCast]
  have erl:(b4z (adj (zM M tg)) (zM M tg).length s).length=M.length:=by
   rw[c7s (by rw[d2r];exact hs),d2r]
  rw[if_neg (by simp),hZ,er,Option.bind_some];dsimp only;rw[erl];exact a0f (k:=13) (b:=P.c1c) (n:=M.length) (st:=fun i=>((i:Int),(M.length:Int),b4z (adj (zM M tg)) (zM M tg).length s,tab M.length tg,zs (fl (cW M tg s) i),())) (F:=fun _=>some (zs (fl (cW M tg s) M.length),())) (fun i g hi hg=>by
   unfold P.c1c;dsimp only at hg ⊢;have hli:=b8c (cW M tg s) i;have e1:(i:Int)<(M.length:Int):=by omega
   have e2:(0:Int)<=(i:Int):=by omega
   have e5:((fl (cW M tg s) i).length+1)*8<=140737488355328:=by omega
   have e10:(b4z (adj (zM M tg)) (zM M tg).length s).getD i false=rcB (zM M tg) s i:=rfl;have e11:(tab M.length tg).getD i false=tg i:=a8j _ _ hi;have hv:cW M tg s i=(rcB (zM M tg) s i&& !tg i):=rfl;rw[b8u,hv]at hg;simp only[Int.toNat_natCast,a5x,List.length_cons,List.length_nil,Nat.zero_add,a0s,erl,e1,e2,e5,e10,e11,decide_true,if_true];rw[wr (by omega) (by omega)];cases hr:rcB (zM M tg) s i
   ·rw[hr,if_neg (by simp),List.append_nil]at hg;rw[if_neg (by decide)];exact hg
   ·rw[hr,Bool.true_and]at hg;rw[if_pos rfl];cases ht:tg i
    ·rw[ht,if_pos (by decide),c0o]at hg;rw[if_pos (by decide)];exact hg
    ·rw[ht,if_neg (by decide),List.append_nil]at hg;rw[if_neg (by decide)];exact hg) (fun g=>by
   unfold P.c1c;dsimp only;rw[if_neg (by simp)]) (by omega)) (by omega)
 refine Eq.trans ?_ key;have:(tab M.length fun j=>if j<0/\tg j=false then M.getD j []else tab M.length fun _=>a0q)=tab M.length fun _=>tab M.length fun _=>a0q:=a0p fun j _=>by rw[if_neg (by omega)]
 rw[this];rfl
abbrev i_VisitsBefore.A:=Int×Int×List Int×List RB×Int×List (List RB)×List Int×List RB×Unit
abbrev i_VisitsBefore.B:=Option ((List ByteArray×Bool)×Unit)
abbrev P.a4i (x17:Int×Int×List Int×List RB×List RB×Unit) (g18:Int×Int×List Int×List RB×List RB×Unit->i_VisitsBefore.B):i_VisitsBefore.B:=
 (fun(a b:Int) (c:List Int) (d e:List RB)=>if decide (a<b)then if decide (0<=a)then if decide (a<(c.length:Int))then if decide (0<=a)then if decide (a<(e.length:Int))then if decide (0<=(c.getD a.toNat 0))then if decide ((c.getD a.toNat 0)<(d.length:Int))then g18 (wrap .i64 (a+1),b,c,d.set (0+(Int.toNat (c.getD a.toNat 0))) ((e.getD a.toNat (false,[],[])).1,(e.getD a.toNat (false,[],[])).2.1,(e.getD a.toNat (false,[],[])).2.2),e,())else none else none else none else none else none else none else(S.b0x (d,())).bind fun y19=>some ((y19.1.1,y19.1.2),())) x17.1 x17.2.1 x17.2.2.1 x17.2.2.2.1 x17.2.2.2.2.1
abbrev P.a7k (k:Nat) (x9:i_VisitsBefore.A) (g10:i_VisitsBefore.A->i_VisitsBefore.B):i_VisitsBefore.B:=
 (fun(a b e:Int) (c h:List Int) (d i:List RB) (f:List (List RB))=>if decide (a<b)then if decide (0<=a)then if decide (a<(c.length:Int))then(S.a2l (0,())).bind fun y11=>if decide (((d.length+(List.length [(y11.1.1,y11.1.2.1,y11.1.2.2)]))*56)<=140737488355328)then if(c.getD a.toNat 0)==e then(S.a2l (1,())).bind fun y12=>if decide (0<=(wrap .i64 ((List.length (d++[(y11.1.1,y11.1.2.1,y11.1.2.2)]):Int) - 1)))then if decide ((wrap .i64 ((List.length (d++[(y11.1.1,y11.1.2.1,y11.1.2.2)]):Int) - 1))<(List.length (d++[(y11.1.1,y11.1.2.1,y11.1.2.2)]):Int))then g10 (wrap .i64 (a+1),b,c,List.set (d++[(y11.1.1,y11.1.2.1,y11.1.2.2)]) (0+(Int.toNat (wrap .i64 ((List.length (d++[(y11.1.1,y11.1.2.1,y11.1.2.2)]):Int) - 1)))) (y12.1.1,y12.1.2.1,y12.1.2.2),e,f,h,i,())else none else none else g10 (wrap .i64 (a+1),b,c,d++[(y11.1.1,y11.1.2.1,y11.1.2.2)],e,f,h,i,())else none else none else none else(S.a9j (f,h,true,())).bind fun y13=>if dup (List.map (fun(y14:Nat×Nat)=>y14.1) (seen (hd0 y13.1.1) 0 y13.1.2))then none else if decide (y13.1.2=(List.length (hd0 y13.1.1)))then(S.b7g (nrm (seen (hd0 y13.1.1) 0 y13.1.2) (in0 y13.1.1),d,())).bind fun y15=>loopP P.a4i k (0,(h.length:Int),h,i,splice d y15.2.2.1 0,())else(S.b7g (nrm (seen (hd0 y13.1.1) 0 y13.1.2) (in0 y13.1.1),d,())).bind fun y20=>loopP P.a4i k (0,(h.length:Int),h,i,splice d y20.2.2.1 0,())) x9.1 x9.2.1 x9.2.2.2.2.1 x9.2.2.1 x9.2.2.2.2.2.2.1 x9.2.2.2.1 x9.2.2.2.2.2.2.2.1 x9.2.2.2.2.2.1
def P.b6b (k:Nat) (x:List (List ByteArray)×Int×List Int×Unit):i_VisitsBefore.B:=
 (S.a7j (x.1,x.2.2.1,())).bind fun y0=>if !y0.1.2.2 then some (([],false),())else(S.b4o (y0.1.1,x.2.1,())).bind fun y1=>if !y1.1 then some (([],false),())else(S.d7e (y0.1.1,y0.1.2.1,())).bind fun y2=>if decide (0<=x.2.1)then if decide (x.2.1<(y2.1.length:Int))then(S.a4k (((y2.1.getD x.2.1.toNat (false,[],[])).1,(y2.1.getD x.2.1.toNat (false,[],[])).2.1,(y2.1.getD x.2.1.toNat (false,[],[])).2.2),())).bind fun y3=>if !y3.1 then some (([],false),())else(S.a2l (0,())).bind fun y4=>(S.a0j ([(y4.1.1,y4.1.2.1,y4.1.2.2)],(y0.1.1.length:Int),())).bind fun y5=>if decide (0<=x.2.1)then if decide (x.2.1<(y0.1.2.1.length:Int))then if y0.1.2.1.getD x.2.1.toNat false then(S.b0x (y5.1,())).bind fun y6=>some ((y6.1.1,y6.1.2),())else(S.c7e (y0.1.1,x.2.1,y0.1.2.1,())).bind fun y7=>loopP (P.a7k k) k (0,(y7.1.length:Int),y7.1,[],x.2.1,y0.1.1,y7.1,y5.1,())else none else none else none else none
open Classical in
def S.a4q (x:((List (List ByteArray))×(Int×((List Int)×Unit)))):(Option (((List ByteArray)×Bool)×Unit)):=if x.1.all okT=true/\x.2.2.1.length<=1000000 then some (vbT x.1 x.2.1 x.2.2.1,())else none
theorem S.c7f (x r) (h:S.a4q x=some r):∃k,P.b6b k x=some r:=by
 obtain⟨u,z,ts,u'⟩:=x;unfold S.a4q at h;dsimp only at h;split at h
 case isFalse=>cases h
 rename_i hcc;obtain⟨hu,ht⟩:=hcc;cases h;refine⟨13,?_⟩;have hp:S.b6u (u,())=some ((mp B32 (chQ u).1,(chQ u).2),()):=by
  unfold S.b6u;exact if_pos hu
 unfold P.b6b S.a7j P.a7i vbT tgC;dsimp only;rw[hp,Option.bind_some];dsimp only;cases hc:(chQ u).2
 ·rw[if_pos (by decide),Bool.false_and,if_neg (by decide),Option.bind_some];rfl
 obtain⟨hM,_⟩:=chQ_ok hc;generalize (chQ u).1=M at*;have hn:=hM.2.1.1;have hn0:0<M.length:=hM.1;have et:S.b1h (mp B32 M,ts,())=some ((if risB ts 0 ((M.length:Int) - 1)=true then(tab M.length (tgF ts),decide ((ts.length:Int)>0))else([],false)),()):=by
  unfold S.b1h;dsimp only;rw[a2y,if_pos ⟨by omega,hn,by omega⟩]
 have eh:S.d7e (mp B32 M,tab M.length (tgF ts),())=some ((e2w M (tgF ts)).map (rp B32),()):=by
  unfold S.d7e;dsimp only;rw[if_pos ⟨_,hM,rfl,a0s _ _⟩,b8s (by decide),hitL_cg hM fun i hi=>a8j _ _ hi]
 have es:S.b4o (mp B32 M,z,())=some (decide (0<=z/\z<=(M.length:Int) - 1),()):=by
  unfold S.b4o P.b9k S.i_in P.i_in;dsimp only;rw[a2y,wr (by omega) (by omega)]
  by_cases h1:z>=0
  ·rw[if_pos (decide_eq_true h1),Option.bind_some];congr 2;rw[decide_eq_decide];exact⟨fun a=>⟨h1,a⟩,fun a=>a.2⟩
  ·rw[if_neg (by simpa using h1),Option.bind_some,decide_eq_false (fun a=>h1 a.1)]
 rw[if_neg (by decide),et,Option.bind_some,Option.bind_some,Bool.true_and];dsimp only;cases hr:risB ts 0 ((M.length:Int) - 1)
 ·simp only[Bool.false_eq_true,if_false,Bool.and_false,Bool.false_and,Bool.not_false,if_true]
 rw[if_pos rfl,Bool.and_true];dsimp only;cases h0:decide ((ts.length:Int)>0)
 ·rw[if_pos (by decide),Bool.false_and,if_neg (by decide)]
 rw[if_neg (by decide),es,Option.bind_some,Bool.true_and];dsimp only;cases hd:decide (0<=z/\z<=(M.length:Int) - 1)
 ·rw[if_pos (by decide),Bool.false_and,if_neg (by decide)]
 obtain⟨s,rfl⟩:=Int.eq_ofNat_of_zero_le (of_decide_eq_true hd).1;have hs:s<M.length:=by have:=(of_decide_eq_true hd).2;omega
 have hs0:(0:Int)<=(s:Int):=by omega
 have hs1:(s:Int)<(M.length:Int):=by omega
 have e9:(e2w M (tgF ts)).length=M.length:=by rw[hitL_tab,a0s]
 have e4:∀q:Q3,((rp B32 q).1,(rp B32 q).2.1,(rp B32 q).2.2)=rp B32 q:=fun _=>rfl
 have e7:((e2w M (tgF ts)).map (rp B32)).getD s (false,(([]:List Int),([]:List Int)))=rp B32 (hQ M (tgF ts) s):=a4s hs _;have kb:=hQ_low hM (tgF ts) hs;have ee:S.a4k (rp B32 (hQ M (tgF ts) s),())=some (decide (hQ M (tgF ts) s=a6j),()):=by
  unfold S.a4k;dsimp only;rw[a3q a0e,if_pos ⟨b1n (by decide) kb.2 (by decide),low_qok kb.1⟩,isOne_low kb.1]
 have hz:S.a2l (0,())=some (rp B32 a0q,()):=by rfl
 have ho:S.a2l (1,())=some (rp B32 a6j,()):=by rfl
 have er:S.a0j ([rp B32 a0q],(M.length:Int),())=some (List.replicate M.length (rp B32 a0q),()):=by
  unfold S.a0j;dsimp only;rw[if_pos ⟨rfl,by omega,by omega⟩,Int.toNat_natCast];rfl
 rw[if_neg (by decide),eh,Option.bind_some,Bool.true_and,if_pos (decide_eq_true hs0),List.length_map,e9,if_pos (decide_eq_true hs1),Int.toNat_natCast];dsimp only;rw[e7];simp only[e4];rw[ee,Option.bind_some];dsimp only;cases hq:decide (hQ M (tgF ts) s=a6j)
 ·rw[if_pos (by decide),if_neg (by decide)]
 have h1:hQ M (tgF ts) s=a6j:=of_decide_eq_true hq;obtain⟨o1,o2⟩:=vsp_all hM hs h1;have eg:S.b0x ((tab M.length (d4t M (tgF ts) s)).map (rp B32),())=some (c9u (tab M.length (d4t M (tgF ts) s)),()):=by
  unfold S.b0x;dsimp only;rw[if_pos ⟨all_rok (by decide) (by decide) o1,by rw[List.length_map];omega⟩,b8z a0e]
 have e11:(tab M.length (tgF ts)).getD s false=tgF ts s:=a8j _ _ hs;rw[if_neg (by decide),if_pos rfl,hz,Option.bind_some];dsimp only;simp only[e4];rw[a2y,er,Option.bind_some,if_pos (decide_eq_true hs0),a0s,if_pos (decide_eq_true hs1),e11];dsimp only;cases hst:tgF ts s
 case true=>
  have:List.replicate M.length (rp B32 a0q)=(tab M.length (d4t M (tgF ts) s)).map (rp B32):=by
   rw[c6n,a8q];apply a0p;intro j _;rw[vsp_zero hst]
  rw[if_pos rfl,this,eg,Option.bind_some]
 have ew:S.c7e (mp B32 M,(s:Int),tab M.length (tgF ts),())=some (zs (fl (cW M (tgF ts) s) M.length),()):=by
  unfold S.c7e;dsimp only;rw[if_pos ⟨M,hM,rfl,hs0,hs1,a0s _ _⟩,b8s (by decide),a2y,Int.toNat_natCast,c9z (cW_congr (fun i hi=>a8j _ _ hi) s)]
 rw[if_neg (by decide),ew,Option.bind_some];dsimp only;have w1:=cW_way hM hs h1;have hsol:=col_sol hM w1 s;have hvis:(tab M.length (visQ M (tgF ts) s))=tab M.length (d4t M (tgF ts) s):=a0p fun j hj=>vis_same hM hs hst h1 hj
 have hpt:puts M.length (cW M (tgF ts) s) (b8b (hA M true (cW M (tgF ts) s) (atQ s)) (fl (cW M (tgF ts) s) M.length).length) (fun _=>a0q) (fl (cW M (tgF ts) s) M.length).length=tab M.length (visQ M (tgF ts) s):=e0f;rw[<-hvis,<-hpt]at eg;rw[<-hvis,<-hpt];clear hpt hvis;generalize cW M (tgF ts) s=c at*;have hlM:=b8c c M.length;rw[a5x];have key:=a0f (k:=13) (b:=P.a7k 13) (n:=(fl c M.length).length) (st:=fun a=>((a:Int),((fl c M.length).length:Int),zs (fl c M.length),(tab a fun b=>atQ s ((fl c M.length).getD b 0)).map (rp B32),(s:Int),mp B32 M,zs (fl c M.length),List.replicate M.length (rp B32 a0q),())) (F:=fun _=>some (c9u (puts M.length c (b8b (hA M true c (atQ s)) (fl c M.length).length) (fun _=>a0q) (fl c M.length).length),())) (fun a g ha hg=>by
  unfold P.a7k;dsimp only at hg ⊢;have e1:(a:Int)<((fl c M.length).length:Int):=by omega
  have e2:(0:Int)<=(a:Int):=by omega
  have e3:(a+1)*56<=140737488355328:=by omega
  have hv:atQ s ((fl c M.length).getD a 0)=if(fl c M.length).getD a 0=s then a6j else a0q:=rfl
  rw[<-a7y,hv]at hg;have hlen:∀q:Bool×(List Int×List Int),((tab a fun b=>atQ s ((fl c M.length).getD b 0)).map (rp B32)++[q]).length=a+1:=fun q=>by simp [a0s]
  rw[if_pos (decide_eq_true e1),if_pos (decide_eq_true e2),a5x,if_pos (decide_eq_true e1),hz,Option.bind_some];dsimp only;simp only[e4,hlen,b6e,Int.toNat_natCast,List.length_map,a0s,List.length_cons,List.length_nil,Nat.zero_add,e3,decide_true,if_true];rw[wr (x:=(a:Int)+1) (by omega) (by omega)]
  by_cases hq2:(fl c M.length).getD a 0=s
  ·rw[if_pos hq2]at hg;have f1:(((a+1:Nat):Int) - 1)=(a:Int):=by omega
   have f2:(a:Int)<((a+1:Nat):Int):=by omega
   rw[if_pos (by rw[beq_iff_eq];omega),ho,Option.bind_some,wr (by omega) (by omega),f1,if_pos (decide_eq_true e2),if_pos (decide_eq_true f2),Int.toNat_natCast];dsimp only;simp only[e4];have hset:((tab a fun b=>atQ s ((fl c M.length).getD b 0)).map (rp B32)++[rp B32 a0q]).set a (rp B32 a6j)=(tab a fun b=>atQ s ((fl c M.length).getD b 0)).map (rp B32)++[rp B32 a6j]:=by
    have hl2:((tab a fun b=>atQ s ((fl c M.length).getD b 0)).map (rp B32)).length=a:=by rw[List.length_map,a0s]
    rw[List.set_append_right _ _ (by rw[hl2];exact Nat.le_refl _),hl2,Nat.sub_self,List.set_cons_zero]
   rw[hset];exact hg
  ·rw[if_neg hq2]at hg;rw[if_neg (by rw[beq_iff_eq];omega)];exact hg) (fun g=>by
  unfold P.a7k;dsimp only;have eL:S.a9j (mp B32 M,zs (fl c M.length),true,())=some ((om B32 (fl c M.length).length (fl c M.length).length (hA M true c (atQ s)),(fl c M.length).length),()):=by
   unfold S.a9j;dsimp only;rw[if_pos ⟨M,hM,rfl,by rw[c6p]⟩,b8s (by decide),a5x,e0l (d:=c) c6p];have:om B32 (fl c M.length).length (fl c M.length).length (hA M true c fun _=>a0q)=om B32 (fl c M.length).length (fl c M.length).length (hA M true c (atQ s)):=b5r fun a ha b hb=>by
    rw[hA_at _ _ _ _ hb,hA_at _ _ _ _ hb]
   rw[this]
  have eR:(tab (fl c M.length).length fun b=>atQ s ((fl c M.length).getD b 0)).map (rp B32)=rtN (hA M true c (atQ s)) (fl c M.length).length:=by
   unfold rtN;congr 1;apply a0p;intro a ha;unfold hA;rw[if_pos rfl]
  rw[if_neg (by simp),eL,Option.bind_some];dsimp only;rw[e2k,a1d,if_neg (by decide),a0t,a4h,if_pos (by simp),e2l,List.take_of_length_le (by rw[a4h];exact Nat.le_refl _),eR,solve_i hsol,Option.bind_some];dsimp only;have hsp:splice (rtN (hA M true c (atQ s)) (fl c M.length).length) ((tab (fl c M.length).length (b8b (hA M true c (atQ s)) (fl c M.length).length)).map (rp B32)) 0=(tab (fl c M.length).length (b8b (hA M true c (atQ s)) (fl c M.length).length)).map (rp B32):=by
   unfold splice rtN;simp [a0s]
  rw[hsp,a5x];have key2:=a0f (k:=13) (b:=P.a4i) (n:=(fl c M.length).length) (st:=fun a=>((a:Int),((fl c M.length).length:Int),zs (fl c M.length),(puts M.length c (b8b (hA M true c (atQ s)) (fl c M.length).length) (fun _=>a0q) a).map (rp B32),(tab (fl c M.length).length (b8b (hA M true c (atQ s)) (fl c M.length).length)).map (rp B32),())) (F:=fun _=>some (c9u (puts M.length c (b8b (hA M true c (atQ s)) (fl c M.length).length) (fun _=>a0q) (fl c M.length).length),())) (fun a g' ha hg=>by
   unfold P.a4i;dsimp only at hg ⊢;obtain⟨q1,q2⟩:=b9c ha;have e1:(a:Int)<((fl c M.length).length:Int):=by omega
   have e2:(0:Int)<=(a:Int):=by omega
   have e5:(0:Int)<=(((fl c M.length).getD a 0:Nat):Int):=by omega
   have e6:(((fl c M.length).getD a 0:Nat):Int)<(M.length:Int):=by omega
   simp only[a5x,b6e,Int.toNat_natCast,List.length_map,a0s,e0h,a4s ha,Nat.zero_add,e1,e2,e5,e6,decide_true,if_true];rw[wr (by omega) (by omega)];rw[<-e0g ha]at hg;exact hg) (fun g'=>by
   unfold P.a4i;dsimp only;rw[if_neg (by simp),eg,Option.bind_some]) (by omega)
  refine Eq.trans ?_ key2;rw[d2o];have:(tab M.length fun _=>a0q).map (rp B32)=List.replicate M.length (rp B32 a0q):=by
   rw[c6n,a8q]
  rw[this];rfl) (by omega)
 exact key
def P.a2w (k:Nat) (x:List (List ByteArray)×Int×List Int×Unit):Option (Bool×Unit):=
 (S.b4r (x.1,wrap .i64 (1000000 - (x.2.2.1.length:Int)),())).bind fun y0=>if decide (y0.1<0)then some (true,())else(S.a8y (x.1,false,())).bind fun y1=>(S.a5o (x.2.2.1,false,())).bind fun y2=>(S.a5y (List.map (fun(y3:List ByteArray×Nat)=>List.map (fun(y4:ByteArray)=>y4) (List.take y3.2 y3.1)) (seen (nrm (hd0 y1.1.1) (in0 y1.1.1)) 0 y1.1.2),x.2.1,seen y2.1.1 0 y2.1.2,())).bind fun y5=>(S.a8y (x.1,false,())).bind fun y6=>(S.a5o (x.2.2.1,false,())).bind fun y7=>(S.a4q (List.map (fun(y8:List ByteArray×Nat)=>List.map (fun(y9:ByteArray)=>y9) (List.take y8.2 y8.1)) (seen (nrm (hd0 y6.1.1) (in0 y6.1.1)) 0 y6.1.2),x.2.1,seen y7.1.1 0 y7.1.2,())).bind fun y10=>(S.a2j (y10.1.1,y5.1.1,())).bind fun y11=>if !y11.1 then some (false,())else if ! (y10.1.2==y5.1.2)then some (false,())else(S.a8y (x.1,false,())).bind fun y12=>(S.a9w ((List.drop 0 (nrm (hd0 y6.1.1) (in0 y6.1.1)),y6.1.2),(List.drop 0 (nrm (hd0 y12.1.1) (in0 y12.1.1)),y12.1.2),())).bind fun y13=>if !y13.1 then some (false,())else(S.a5o (x.2.2.1,false,())).bind fun y14=>(S.a7t ((List.drop 0 y7.1.1,y7.1.2),(List.drop 0 y14.1.1,y14.1.2),())).bind fun y15=>if !y15.1 then some (false,())else if dup (List.map (fun(y16:Nat×Nat)=>y16.1) (seen (hd0 y6.1.1) 0 y6.1.2))then none else(fun(e0:Option (Bool×Unit))=>if decide (y6.1.2=(List.length (hd0 y6.1.1)))then e0 else e0) ((S.b4s (nrm (seen (hd0 y6.1.1) 0 y6.1.2) (in0 y6.1.1),101,())).bind fun y17=>(S.a8x (seen y7.1.1 0 y7.1.2,y17.1,())).bind fun y18=>if decide (y18.1<0)then some (false,())else(S.a2j (y10.1.1,y5.1.1,())).bind fun y19=>if !y19.1 then some (false,())else if ! (y10.1.2==y5.1.2)then some (false,())else(S.a3k (y10.1.1,101,())).bind fun y20=>(S.a5n (splice y10.1.1 y20.2.1 0,101,())).bind fun y21=>if decide (y21.1<0)then some (false,())else if y21.1 != y20.1 then some (false,())else(S.a8y (x.1,true,())).bind fun y22=>(S.a5o (x.2.2.1,true,())).bind fun y23=>(S.a4q (List.map (fun(y24:List ByteArray×Nat)=>List.map (fun(y25:ByteArray)=>y25) (List.take y24.2 y24.1)) (seen (nrm (hd0 y22.1.1) (in0 y22.1.1)) 0 y22.1.2),x.2.1,seen y23.1.1 0 y23.1.2,())).bind fun y26=>(S.a2j (y26.1.1,y5.1.1,())).bind fun y27=>if !y27.1 then some (false,())else if ! (y26.1.2==y5.1.2)then some (false,())else(S.a5n (splice y10.1.1 y20.2.1 0,101,())).bind fun y28=>if decide (y28.1<0)then some (false,())else if y28.1 != y20.1 then some (false,())else some (true,()))
def S.a6v (x:((List (List ByteArray))×(Int×((List Int)×Unit)))):(Option (Bool×Unit)):=P.a2w 0 x
theorem S.b6v (x r) (h:S.a6v x=some r):∃k,P.a2w k x=some r:=⟨0,h⟩
end Go.Cm
end
