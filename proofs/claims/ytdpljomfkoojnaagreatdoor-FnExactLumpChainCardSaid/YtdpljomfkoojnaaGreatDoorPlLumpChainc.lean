import Derived.Test.YtdpljomfkoojnaaGreatDoorPlLumpChainb
set_option linter.unusedVariables false
set_option maxRecDepth 100000
noncomputable section
namespace Go.Cm
open IntKind (wrap)
abbrev P.slices_Repeat__i_rat_i_rat_b1 (x2:(Int×((List RB)×Unit))) (g3:(Int×((List RB)×Unit))->Option ((List RB)×Unit)):Option ((List RB)×Unit):=
 (if((decide (x2.1<((List.length x2.2.1):Int)))=true)then(if((decide ((0:Int)<=((List.length x2.2.1):Int)))=true)then(if((decide ((((List.length x2.2.1):Int)+(0:Int))<=((List.length x2.2.1):Int)))=true)then(if((decide ((0:Int)<=x2.1))=true)then(if((decide (x2.1<=((List.length x2.2.1):Int)))=true)then(if((decide ((0:Int)<=x2.1))=true)then(if((decide ((x2.1+(0:Int))<=((List.length x2.2.1):Int)))=true)then(if((decide ((0:Int)<=x2.1))=true)then(g3 ((IntKind.wrap .i64 (x2.1+(((Min.min (List.length (seen x2.2.1 (0:Nat) ((Int.toNat x2.1) - (0:Nat)))) ((Int.toNat ((List.length x2.2.1):Int)) - (Int.toNat x2.1))):Nat):Int))),((splice x2.2.1 (List.take ((Int.toNat ((List.length x2.2.1):Int)) - (Int.toNat x2.1)) (seen x2.2.1 (0:Nat) ((Int.toNat x2.1) - (0:Nat)))) ((0:Nat)+(Int.toNat x2.1))),())))
 else none)
 else none)
 else none)
 else none)
 else none)
 else none)
 else none)
 else(some (x2.2.1,())))
def P.slices_Repeat__i_rat_i_rat (k:Nat) (x:((List RB)×(Int×Unit))):(Option ((List RB)×Unit)):=
 (if((decide (x.2.1<(0:Int)))=true)then none
 else(Option.bind (S.math_bits_Mul ((IntKind.wrap .u64 ((List.length x.1):Int)),((IntKind.wrap .u64 x.2.1),()))) (fun(y0:((Int×Int)×Unit))=>(if((decide (y0.1.1>(0:Int)))=true)then none
 else(if((decide (y0.1.2>(9223372036854775807:Int)))=true)then none
 else(if((decide ((0:Int)<=(IntKind.wrap .i64 y0.1.2)))=true)then(if((decide ((IntKind.wrap .i64 y0.1.2)<=(IntKind.wrap .i64 y0.1.2)))=true)then(if((decide (((IntKind.wrap .i64 y0.1.2)*(56:Int))<=(281474976710656:Int)))=true)then(loopP (X:=(Int×((List RB)×Unit))) (R:=((List RB)×Unit)) (P.slices_Repeat__i_rat_i_rat_b1) k ((((Min.min (List.length x.1) (List.length (List.replicate (Int.toNat (IntKind.wrap .i64 y0.1.2)) (false,(([]:List Int),([]:List Int)))))):Nat):Int),((splice (List.replicate (Int.toNat (IntKind.wrap .i64 y0.1.2)) (false,(([]:List Int),([]:List Int)))) (List.take (List.length (List.replicate (Int.toNat (IntKind.wrap .i64 y0.1.2)) (false,(([]:List Int),([]:List Int))))) x.1) (0:Nat)),())))
 else none)
 else none)
 else none))))))
def PP.slices_Repeat__i_rat_i_rat (k:Nat) (x:((List RB)×(Int×Unit))):(Option ((List RB)×Unit)):=
 (Decidable.rec (motive:=fun _=>(Option ((List RB)×Unit))) (fun _=>(Option.bind (S.math_bits_Mul ((IntKind.wrap .u64 ((List.length x.1):Int)),((IntKind.wrap .u64 x.2.1),()))) (fun(y0:((Int×Int)×Unit))=>(Decidable.rec (motive:=fun _=>(Option ((List RB)×Unit))) (fun _=>(Decidable.rec (motive:=fun _=>(Option ((List RB)×Unit))) (fun _=>(Decidable.rec (motive:=fun _=>(Option ((List RB)×Unit))) (fun _=>none) (fun _=>(Decidable.rec (motive:=fun _=>(Option ((List RB)×Unit))) (fun _=>none) (fun _=>(Decidable.rec (motive:=fun _=>(Option ((List RB)×Unit))) (fun _=>none) (fun _=>(loopP (X:=(Int×((List RB)×Unit))) (R:=((List RB)×Unit)) (P.slices_Repeat__i_rat_i_rat_b1) k ((((Min.min (List.length x.1) (List.length (List.replicate (Int.toNat (IntKind.wrap .i64 y0.1.2)) (false,(([]:List Int),([]:List Int)))))):Nat):Int),((splice (List.replicate (Int.toNat (IntKind.wrap .i64 y0.1.2)) (false,(([]:List Int),([]:List Int)))) (List.take (List.length (List.replicate (Int.toNat (IntKind.wrap .i64 y0.1.2)) (false,(([]:List Int),([]:List Int))))) x.1) (0:Nat)),())))) (instDecidableEqBool (decide (((IntKind.wrap .i64 y0.1.2)*(56:Int))<=(281474976710656:Int))) true))) (instDecidableEqBool (decide ((IntKind.wrap .i64 y0.1.2)<=(IntKind.wrap .i64 y0.1.2))) true))) (instDecidableEqBool (decide ((0:Int)<=(IntKind.wrap .i64 y0.1.2))) true))) (fun _=>none) (instDecidableEqBool (decide (y0.1.2>(9223372036854775807:Int))) true))) (fun _=>none) (instDecidableEqBool (decide (y0.1.1>(0:Int))) true))))) (fun _=>none) (instDecidableEqBool (decide (x.2.1<(0:Int))) true))
theorem PP.slices_Repeat__i_rat_i_rat_eq (k:Nat) (x:((List RB)×(Int×Unit))):PP.slices_Repeat__i_rat_i_rat k x=P.slices_Repeat__i_rat_i_rat k x:=rfl
theorem mul_one_bits:∀n:Fin 21,S.math_bits_Mul (1,((n.val:Int),()))=some ((0,(n.val:Int)),()):=by decide
def S.slices_Repeat__i_rat_i_rat (x:((List RB)×(Int×Unit))):(Option ((List RB)×Unit)):=if x.1.length=1/\0<=x.2.1/\x.2.1<=20 then some (List.replicate x.2.1.toNat (x.1.getD 0 (false,([],[]))),())else none
theorem S.slices_Repeat__i_rat_i_rat_ok (x r) (h:S.slices_Repeat__i_rat_i_rat x=some r):∃k,P.slices_Repeat__i_rat_i_rat k x=some r:=by
 obtain⟨xs,m,u⟩:=x;unfold S.slices_Repeat__i_rat_i_rat at h;dsimp only at h;split at h
 case isFalse=>cases h
 rename_i hc;cases h;obtain⟨hx,h1,h2⟩:=hc;obtain⟨a,rfl⟩:∃a,xs=[a]:=by
  match xs,hx with
  | [a],_=>exact⟨a,rfl⟩
 obtain⟨M,rfl⟩:∃M:Nat,m=(M:Int):=⟨m.toNat,by omega⟩
 rw[Int.toNat_natCast];refine⟨M+2,?_⟩;unfold P.slices_Repeat__i_rat_i_rat;dsimp only;have hmul:=mul_one_bits ⟨M,by omega⟩;dsimp only at hmul;have e0:IntKind.wrap .u64 (M:Int)=(M:Int):=IntWalk.u64_in _ (by omega);rw[if_neg (by simp),e0];show Option.bind (S.math_bits_Mul (1,((M:Int),()))) _=_;rw[hmul,Option.bind_some];dsimp only;rw[if_neg (show ¬((decide ((0:Int)>0))=true) by simp),if_neg (by simpa using(show ¬(M:Int)>9223372036854775807 by omega)),wr (by omega) (by omega),if_pos (decide_eq_true (show(0:Int)<=(M:Int) by omega)),if_pos (by simp),if_pos (decide_eq_true (show(M:Int)*56<=281474976710656 by omega)),Int.toNat_natCast];simp only[List.length_replicate,List.length_cons,List.length_nil,Nat.zero_add];have key:∀(d j k:Nat),j+d=M->1<=j->d<k->loopP P.slices_Repeat__i_rat_i_rat_b1 k ((j:Int),List.replicate j a++List.replicate d (false,(([]:List Int),([]:List Int))),())=some (List.replicate M a,()):=by
  intro d
  induction d using Nat.strongRecOn with
  |ind d ih=>
   intro j k hj h1 hk;cases k with
   |zero=>omega
   |succ k=>
    rw[loopP_succ];unfold P.slices_Repeat__i_rat_i_rat_b1;have hlen:(List.replicate j a++List.replicate d (false,(([]:List Int),([]:List Int)))).length=M:=by simp;omega
    dsimp only;rw[hlen]
    by_cases hd:d=0
    ·subst hd;rw[if_neg (by simpa using(show ¬(j:Int)<(M:Int) by omega))];rw[show j=M by omega];simp
    ·have c1:(j:Int)<(M:Int):=by omega
     have c2:(0:Int)<=(M:Int):=by omega
     have c3:(M:Int)+0<=(M:Int):=by omega
     have c4:(0:Int)<=(j:Int):=by omega
     have c5:(j:Int)<=(M:Int):=by omega
     have c6:(j:Int)+0<=(M:Int):=by omega
     simp only[c1,c2,c3,c4,c5,c6,decide_true,if_true];have hs:seen (List.replicate j a++List.replicate d (false,(([]:List Int),([]:List Int)))) 0 ((j:Int).toNat - 0)=List.replicate j a:=by
      unfold seen;rw[Int.toNat_natCast,Nat.sub_zero,List.drop_zero,List.take_left' (by simp)]
     rw[hs,List.length_replicate,Int.toNat_natCast,Int.toNat_natCast];have hsp:splice (List.replicate j a++List.replicate d (false,(([]:List Int),([]:List Int)))) (List.take (M - j) (List.replicate j a)) (0+j)=List.replicate (j+min j d) a++List.replicate (d - min j d) (false,(([]:List Int),([]:List Int))):=by
      unfold splice;rw[Nat.zero_add,List.take_left' (by simp),List.take_replicate,List.length_replicate,show M - j=d by omega,List.drop_append];simp only[List.length_replicate];rw[List.drop_of_length_le (by simp),List.nil_append,List.drop_replicate,<-List.replicate_append_replicate,show j+min d j - j=min d j by omega,Nat.min_comm d j]
     rw[hsp,show M - j=d by omega,wr (by omega) (by omega)];have:=ih (d - min j d) (by omega) (j+min j d) k (by omega) (by omega) (by omega);rw[<-this];congr 2
 match M,h2 with
 |0,_=>
  rfl
 |M+1,h2=>
  have:=key M 1 (M+1+2) (by omega) (by omega) (by omega);have a1:min 1 (M+1)=1:=by omega
  have a2:splice (List.replicate (M+1) (false,(([]:List Int),([]:List Int)))) (List.take (M+1) [a]) 0=List.replicate 1 a++List.replicate M (false,(([]:List Int),([]:List Int))):=by
   unfold splice;simp [List.replicate_succ]
  rw[a1,a2];exact this
def P.i_magnitude (k:Nat) (x:Int×Unit):Option (Int×Unit):=
 if decide (x.1<0)then some (wrap .u64 (0 - (wrap .u64 x.1)),())else some (wrap .u64 x.1,())
def S.i_magnitude (x:(Int×Unit)):(Option (Int×Unit)):=if -9223372036854775808<=x.1/\x.1<=9223372036854775807 then some (((x.1.natAbs:Nat):Int),())else none
theorem S.i_magnitude_ok (x r) (h:S.i_magnitude x=some r):∃k,P.i_magnitude k x=some r:=by
 obtain⟨n,u⟩:=x;unfold S.i_magnitude at h;dsimp only at h;split at h
 case isFalse=>cases h
 rename_i hc;cases h;refine⟨0,?_⟩;unfold P.i_magnitude;dsimp only;have hw:∀y:Int,IntKind.wrap .u64 y=y%18446744073709551616:=fun _=>rfl
 rw[hw,hw]
 by_cases h0:n<0
 ·rw[if_pos (decide_eq_true h0)];congr 2;omega
 ·rw[if_neg (by simpa using h0)];congr 2;omega
abbrev P.i_nat_trim_b0 (x1:List Int×Unit) (g2:List Int×Unit->Option (List Int×Unit)):Option (List Int×Unit):=
 if decide ((x1.1.length:Int)>0)then if decide (0<=(wrap .i64 ((x1.1.length:Int) - 1)))then if decide ((wrap .i64 ((x1.1.length:Int) - 1))<(x1.1.length:Int))then if(x1.1.getD (Int.toNat (wrap .i64 ((x1.1.length:Int) - 1))) 0)==0 then if decide (0<=(wrap .i64 ((x1.1.length:Int) - 1)))then if decide ((wrap .i64 ((x1.1.length:Int) - 1))<=(x1.1.length:Int))then if decide (0<=(wrap .i64 ((x1.1.length:Int) - 1)))then g2 (seen x1.1 0 ((Int.toNat (wrap .i64 ((x1.1.length:Int) - 1))) - 0),())else none else none else none else some (x1.1,())else none else none else some (x1.1,())
def P.i_nat_trim (k:Nat) (x:List Int×Unit):Option (List Int×Unit):=
 loopP P.i_nat_trim_b0 k (x.1,())
theorem trim_loop (n:Nat):∀(xs:List Int) (k:Nat),xs.length=n->n<k->n<=1000000000000->dig B32 xs=true->loopP (X:=((List Int)×Unit)) (R:=((List Int)×Unit)) P.i_nat_trim_b0 k (xs,())=some (nd B32 (dval B32 xs),()):=by
 induction n with
 |zero=>
  intro xs k hx hk _ _;have:xs=[]:=List.eq_nil_of_length_eq_zero hx;subst this;obtain⟨k,rfl⟩:∃j,k=j+1:=⟨k - 1,by omega⟩
  rw[loopP_succ];unfold P.i_nat_trim_b0;rw[if_neg (by simp)];rw[show dval B32 []=0 from rfl,nd_zero B32_le]
 |succ n ih=>
  intro xs k hx hk hn hd;obtain⟨k,rfl⟩:∃j,k=j+1:=⟨k - 1,by omega⟩
  rw[loopP_succ];unfold P.i_nat_trim_b0;dsimp only;have e0:IntKind.wrap .i64 ((xs.length:Int) - 1)=(n:Int):=by rw[wr (by omega) (by omega)];omega
  have e1:(xs.length:Int)>0:=by omega
  have e2:(0:Int)<=(n:Int):=by omega
  have e3:(n:Int)<(xs.length:Int):=by omega
  have e4:(n:Int)<=(xs.length:Int):=by omega
  rw[e0];simp only[e1,e2,e3,e4,decide_true,if_true];rw[getD_cast xs n _ (by omega)];have hs:=take_snoc xs n hx;have hdt:dig B32 (xs.take n++[xs[n]])=true:=by rw[<-hs];exact hd
  by_cases hz:xs[n]=0
  ·rw[if_pos (by simp [hz])];have e5:seen xs 0 ((n:Int).toNat - 0)=xs.take n:=by simp [seen]
   rw[e5];have hdt':=hdt;rw[dig_append,Bool.and_eq_true]at hdt';rw[ih (xs.take n) k (by simp;omega) (by omega) (by omega) hdt'.1];have:dval B32 xs=dval B32 (xs.take n):=by
    conv=>lhs;rw[hs,hz]
    exact dval_snoc_zero _
   rw[this]
  ·rw[if_neg (by simp [hz])];have:=nd_snoc B32_le (xs.take n) xs[n] hdt hz;rw[<-hs]at this;rw[this]
def S.i_nat_trim (x:((List Int)×Unit)):(Option ((List Int)×Unit)):=if dig B32 x.1=true/\x.1.length<=1000000000000 then some (nd B32 (dval B32 x.1),())else none
theorem S.i_nat_trim_ok (x r) (h:S.i_nat_trim x=some r):∃k,P.i_nat_trim k x=some r:=by
 obtain⟨xs,u⟩:=x;unfold S.i_nat_trim at h;dsimp only at h;split at h
 case isFalse=>cases h
 rename_i hc;cases h;exact⟨xs.length+1,trim_loop xs.length xs _ rfl (by omega) hc.2 hc.1⟩
theorem trim_i (xs:List Int) (h:dig B32 xs=true) (hl:xs.length<=1000000000000):S.i_nat_trim (xs,())=some (nd B32 (dval B32 xs),()):=by
 unfold S.i_nat_trim;dsimp only;rw[if_pos ⟨h,hl⟩]
def P.i_natOf (k:Nat) (x:Int×Unit):Option (List Int×Unit):=
 (S.i_nat_trim ((wrap .u32 x.1)::[wrap .u32 (Int.fdiv x.1 4294967296)],())).bind fun y0=>some (y0.1,())
def S.i_natOf (x:(Int×Unit)):(Option ((List Int)×Unit)):=if 0<=x.1/\x.1<18446744073709551616 then some (nd B32 x.1.toNat,())else none
theorem S.i_natOf_ok (x r) (h:S.i_natOf x=some r):∃k,P.i_natOf k x=some r:=by
 obtain⟨n,u⟩:=x;unfold S.i_natOf at h;dsimp only at h;split at h
 case isFalse=>cases h
 rename_i hc;cases h;refine⟨0,?_⟩;unfold P.i_natOf;dsimp only;have hf:Int.fdiv n 4294967296=n/4294967296:=Int.fdiv_eq_ediv_of_nonneg _ (by omega);rw[hf,u32_mod n hc.1,u32_mod _ (by omega)];have hd:dig B32 [n%4294967296,n/4294967296%4294967296]=true:=by
  rw[dig_cons,dig_cons];refine⟨⟨by omega,?_⟩,⟨by omega,?_⟩,rfl⟩
  ·show _<(4294967296:Int);omega
  ·show _<(4294967296:Int);omega
 rw[trim_i _ hd (by simp),Option.bind_some];have:dval B32 [n%4294967296,n/4294967296%4294967296]=n.toNat:=by
  simp only[dval];show(n%4294967296).toNat+4294967296*((n/4294967296%4294967296).toNat+4294967296*0)=n.toNat;omega
 rw[this]
def P.i_whole (k:Nat) (x:Int×Unit):Option (RB×Unit):=
 (S.i_magnitude (x.1,())).bind fun y0=>(S.i_natOf (y0.1,())).bind fun y1=>(S.i_natOf (1,())).bind fun y2=>some ((decide (x.1<0),y1.1,y2.1),())
def S.i_whole (x:(Int×Unit)):(Option (RB×Unit)):=if -9223372036854775808<=x.1/\x.1<=9223372036854775807 then some (rp B32 (wholeQ x.1),())else none
theorem S.i_whole_ok (x r) (h:S.i_whole x=some r):∃k,P.i_whole k x=some r:=by
 obtain⟨n,u⟩:=x;unfold S.i_whole at h;dsimp only at h;split at h
 case isFalse=>cases h
 rename_i hc;cases h;refine⟨0,?_⟩;unfold P.i_whole S.i_magnitude S.i_natOf;dsimp only;rw[if_pos hc,Option.bind_some];dsimp only;rw[if_pos ⟨by omega,by omega⟩,Option.bind_some,Int.toNat_natCast,if_pos ⟨by decide,by decide⟩,Option.bind_some];rfl
abbrev P.i_nat_cmp_b0 (x1:Int×List Int×List Int×Unit) (g2:Int×List Int×List Int×Unit->Option (Int×Unit)):Option (Int×Unit):=
 (fun(a:Int) (b c:List Int)=>if decide (a>=0)then if decide (0<=a)then if decide (a<(b.length:Int))then if decide (0<=a)then if decide (a<(c.length:Int))then if(b.getD a.toNat 0) != (c.getD a.toNat 0)then if decide (0<=a)then if decide (a<(b.length:Int))then if decide (0<=a)then if decide (a<(c.length:Int))then if decide ((b.getD a.toNat 0)<(c.getD a.toNat 0))then some ((-1:Int),())else some (1,())else none else none else none else none else g2 (wrap .i64 (a - 1),b,c,())else none else none else none else none else some (0,())) x1.1 x1.2.1 x1.2.2.1
def P.i_nat_cmp (k:Nat) (x:List Int×List Int×Unit):Option (Int×Unit):=
 if(x.1.length:Int) != (x.2.1.length:Int)then if decide ((x.1.length:Int)<(x.2.1.length:Int))then some ((-1:Int),())else some (1,())else loopP P.i_nat_cmp_b0 k (wrap .i64 ((x.1.length:Int) - 1),x.1,x.2.1,())
def S.i_nat_cmp (x:((List Int)×((List Int)×Unit))):(Option (Int×Unit)):=if canon B32 x.1=true/\canon B32 x.2.1=true/\x.1.length<=1000000000000 then some (cmpN (dval B32 x.1) (dval B32 x.2.1),())else none
theorem S.i_nat_cmp_ok (x r) (h:S.i_nat_cmp x=some r):∃k,P.i_nat_cmp k x=some r:=by
 obtain⟨xs,ys,u⟩:=x;unfold S.i_nat_cmp at h;dsimp only at h;split at h
 case isFalse=>cases h
 rename_i hc;obtain⟨cx,cy,hl⟩:=hc;cases h;refine⟨xs.length+1,?_⟩;unfold P.i_nat_cmp;dsimp only
 by_cases hn:xs.length=ys.length
 ·rw[if_neg (by simp [hn]),wr (by omega) (by omega)];have key:=loop_up0 (k:=xs.length+1) (b:=P.i_nat_cmp_b0) (n:=xs.length) (st:=fun j=>((xs.length:Int) - 1 - (j:Int),xs,ys,())) (F:=fun j=>some (cmpN (dval B32 (xs.take (xs.length - j))) (dval B32 (ys.take (xs.length - j))),())) (fun j g hj hg=>by
   unfold P.i_nat_cmp_b0;dsimp only at hg ⊢;have e1:(xs.length:Int) - 1 - (j:Int)>=0:=by omega
   have e3:(0:Int)<=(xs.length:Int) - 1 - (j:Int):=by omega
   have e4:(xs.length:Int) - 1 - (j:Int)<(xs.length:Int):=by omega
   have e4':(xs.length:Int) - 1 - (j:Int)<(ys.length:Int):=by omega
   simp only[e1,e4,e4',decide_true,if_true];have hi:xs.length - (j+1)<xs.length:=by omega
   have hi':xs.length - (j+1)<ys.length:=by omega
   have e5:(xs.length:Int) - 1 - (j:Int)=((xs.length - (j+1):Nat):Int):=by omega
   have e6:xs.length - j=(xs.length - (j+1))+1:=by omega
   rw[e5,getD_cast xs _ _ hi,getD_cast ys _ _ hi',e6];generalize xs.length - (j+1)=i at*
   by_cases hq:xs[i]=ys[i]
   ·rw[if_neg (by simp [hq]),wr (by omega) (by omega)];have e7:((i:Nat):Int) - 1=(xs.length:Int) - 1 - ((j+1:Nat):Int):=by omega
    rw[e7,hg,<-List.take_append_getElem hi,<-List.take_append_getElem hi',dval_append,dval_append,hq];have hlx:(xs.take i).length=i:=by simp;omega
    have hly:(ys.take i).length=i:=by simp;omega
    rw[hlx,hly];unfold cmpN;simp only[Nat.add_lt_add_iff_right]
   ·rw[if_pos (by simp [hq])]
    by_cases hlt:xs[i]<ys[i]
    ·have:=dval_top xs ys i hi hi' (canon_dig cx) (canon_dig cy) hlt;rw[if_pos (decide_eq_true hlt),cmpN,if_pos this]
    ·have:=dval_top ys xs i hi' hi (canon_dig cy) (canon_dig cx) (by omega);rw[if_neg (by simpa using hlt),cmpN,if_neg (by omega),if_pos this]) (fun g=>by
   unfold P.i_nat_cmp_b0;dsimp only;rw[if_neg (by simp;omega),Nat.sub_self,List.take_zero,List.take_zero];rfl) (by omega)
  rw[show(xs.length:Int) - 1 - ((0:Nat):Int)=(xs.length:Int) - 1 by omega,Nat.sub_zero,List.take_length,List.take_of_length_le (by omega)]at key;exact key
 ·rw[if_pos (by simp;omega)]
  by_cases hlt:xs.length<ys.length
  ·rw[if_pos (decide_eq_true (by omega)),cmpN,if_pos (canon_small B32_le cx cy hlt)]
  ·have:=canon_small B32_le cy cx (by omega);rw[if_neg (by simp;omega),cmpN,if_neg (by omega),if_pos this]
abbrev P.i_nat_sub_b0 (x1:Int×Int×List Int×Int×List Int×List Int×Unit) (g2:Int×Int×List Int×Int×List Int×List Int×Unit->Option (List Int×Unit)):Option (List Int×Unit):=
 (fun(a b d:Int) (c e f:List Int)=>if decide (a<b)then if decide (0<=a)then if decide (a<(c.length:Int))then if decide (a<(e.length:Int))then if decide (0<=a)then if decide (a<(e.length:Int))then if decide ((wrap .i64 ((wrap .i64 ((wrap .i64 (c.getD a.toNat 0)) - d)) - (wrap .i64 (e.getD a.toNat 0))))<0)then if decide (0<=a)then if decide (a<(f.length:Int))then g2 (wrap .i64 (a+1),b,c,1,e,f.set (0+a.toNat) (wrap .u32 (wrap .i64 ((wrap .i64 ((wrap .i64 (c.getD a.toNat 0)) - d)) - (wrap .i64 (e.getD a.toNat 0))))),())else none else none else if decide (0<=a)then if decide (a<(f.length:Int))then g2 (wrap .i64 (a+1),b,c,0,e,f.set (0+a.toNat) (wrap .u32 (wrap .i64 ((wrap .i64 ((wrap .i64 (c.getD a.toNat 0)) - d)) - (wrap .i64 (e.getD a.toNat 0))))),())else none else none else none else none else if decide ((wrap .i64 ((wrap .i64 (c.getD a.toNat 0)) - d))<0)then if decide (0<=a)then if decide (a<(f.length:Int))then g2 (wrap .i64 (a+1),b,c,1,e,f.set (0+a.toNat) (wrap .u32 (wrap .i64 ((wrap .i64 (c.getD a.toNat 0)) - d))),())else none else none else if decide (0<=a)then if decide (a<(f.length:Int))then g2 (wrap .i64 (a+1),b,c,0,e,f.set (0+a.toNat) (wrap .u32 (wrap .i64 ((wrap .i64 (c.getD a.toNat 0)) - d))),())else none else none else none else none else(S.i_nat_trim (f,())).bind fun y3=>some (y3.1,())) x1.1 x1.2.1 x1.2.2.2.1 x1.2.2.1 x1.2.2.2.2.1 x1.2.2.2.2.2.1
def P.i_nat_sub (k:Nat) (x:List Int×List Int×Unit):Option (List Int×Unit):=
 if decide (0<=(x.1.length:Int))then if decide ((x.1.length:Int)<=(x.1.length:Int))then if decide (((x.1.length:Int)*4)<=281474976710656)then loopP P.i_nat_sub_b0 k (0,(x.1.length:Int),x.1,0,x.2.1,List.replicate (Int.toNat (x.1.length:Int)) 0,())else none else none else none
def S.i_nat_sub (x:((List Int)×((List Int)×Unit))):(Option ((List Int)×Unit)):=if dig B32 x.1=true/\dig B32 x.2.1=true/\x.2.1.length<=x.1.length/\dval B32 x.2.1<=dval B32 x.1/\x.1.length<=10000000000 then some (nd B32 (dval B32 x.1 - dval B32 x.2.1),())else none
theorem S.i_nat_sub_ok (x r) (h:S.i_nat_sub x=some r):∃k,P.i_nat_sub k x=some r:=by
 obtain⟨xs,ys,u⟩:=x;unfold S.i_nat_sub at h;dsimp only at h;split at h
 case isFalse=>cases h
 rename_i hc;obtain⟨dx,dy,hl,hv,lx⟩:=hc;cases h;refine⟨xs.length+1,?_⟩;unfold P.i_nat_sub;dsimp only;have a1:(0:Int)<=(xs.length:Int):=by omega
 have a2:(xs.length:Int)*4<=281474976710656:=by omega
 simp only[a1,a2,decide_true,if_true,Int.le_refl,Int.toNat_natCast];have key:=loop_up0 (k:=xs.length+1) (b:=P.i_nat_sub_b0) (n:=xs.length) (st:=fun i=>((i:Int),(xs.length:Int),xs,((takeUp B32 1 xs ys i).2.2:Int),ys,(takeUp B32 1 xs ys i).1++List.replicate (xs.length - i) 0,())) (F:=fun i=>some (nd B32 (dval B32 xs - dval B32 ys),())) (fun i g hi hg=>by
  unfold P.i_nat_sub_b0;dsimp only at hg ⊢;refine Eq.trans ?_ hg;clear hg;obtain⟨q1,q2,q3,q4,q5⟩:=takeUp_ok (t:=1) B32_le dx dy i;have gx:=dig_getD (B:=B32) (by decide) dx i;have gy:=dig_getD (B:=B32) (by decide) dy i;have gx1:xs.getD i 0<4294967296:=gx.2;have gy1:ys.getD i 0<4294967296:=gy.2;have gx0:=gx.1;have gy0:=gy.1;have hlen:((takeUp B32 1 xs ys i).1++List.replicate (xs.length - i) (0:Int)).length=xs.length:=by rw[List.length_append,q2,List.length_replicate];omega
  have e1:(i:Int)<(xs.length:Int):=by omega
  have e2:(0:Int)<=(i:Int):=by omega
  rw[hlen];simp only[e1,e2,decide_true,if_true,Nat.zero_add,Int.toNat_natCast];have hrep:List.replicate (xs.length - i) (0:Int)=0::List.replicate (xs.length - (i+1)) 0:=by
   rw[show xs.length - i=(xs.length - (i+1))+1 by omega,List.replicate_succ]
  rw[hrep];simp only[mid_set q2];rw[(takeUp_one B32_le (xs:=xs) dy i).2];dsimp only;have y0:¬((i:Int)<(ys.length:Int))->ys.getD i 0=0:=by
   intro hj;rw[List.getD_eq_getElem?_getD,List.getElem?_eq_none (by omega)];rfl
  generalize (takeUp B32 1 xs ys i).1=pl at*;generalize (takeUp B32 1 xs ys i).2.2=l0 at*;obtain⟨x,hx⟩:∃x,xs.getD i 0=x:=⟨_,rfl⟩
  obtain⟨y,hy⟩:∃y,ys.getD i 0=y:=⟨_,rfl⟩
  simp only[hx,hy]at gx1 gx0 gy1 gy0 y0 ⊢;have hB:((B32:Nat):Int)=4294967296:=rfl;rw[wr (x:=(i:Int)+1) (by omega) (by omega),wr (x:=x) (by omega) (by omega),wr (x:=x - (l0:Int)) (by omega) (by omega),hB]
  by_cases hj:(i:Int)<(ys.length:Int)
  ·rw[if_pos (decide_eq_true hj),if_pos (decide_eq_true hj),wr (x:=y) (by omega) (by omega),wr (x:=x - (l0:Int) - y) (by omega) (by omega),u32_emod,show x - (l0:Int) - y=x - y - (l0:Int) by omega]
   by_cases hn:x - y - (l0:Int)<0
   ·rw[if_pos (decide_eq_true hn),if_pos hn];rfl
   ·rw[if_neg (by simpa using hn),if_neg hn];rfl
  ·have hy0:=y0 hj;subst hy0;rw[if_neg (by simpa using hj),u32_emod,show x - 0 - (l0:Int)=x - (l0:Int) by omega]
   by_cases hn:x - (l0:Int)<0
   ·rw[if_pos (decide_eq_true hn),if_pos hn];rfl
   ·rw[if_neg (by simpa using hn),if_neg hn];rfl) (fun g=>by
  unfold P.i_nat_sub_b0;dsimp only;rw[if_neg (by simp),Nat.sub_self,show List.replicate 0 (0:Int)=[]from rfl,List.append_nil,takeUp_fd B32_le dx dy hl hv];unfold S.i_nat_trim;dsimp only;have hb:=dval_lt dx;rw[if_pos ⟨dig_fd (by decide) _ _,by rw[fd_len];omega⟩,Option.bind_some,nd_fd B32_le (by omega)]) (by omega)
 exact key
abbrev i_nat_add.A:=Int×Int×Int×List Int×List Int×List Int×Unit
abbrev i_nat_add.B:=Option (List Int×Unit)
abbrev P.i_nat_add_b0 (x1:i_nat_add.A) (g2:i_nat_add.A->i_nat_add.B):i_nat_add.B:=
 (fun(a b c:Int) (d e f:List Int)=>if decide (a<b)then if decide (0<=a)then if decide (a<(d.length:Int))then if decide (a<(e.length:Int))then if decide (0<=a)then if decide (a<(e.length:Int))then if decide (0<=a)then if decide (a<(f.length:Int))then g2 (wrap .i64 (a+1),b,Int.fdiv (wrap .u64 ((wrap .u64 (c+(wrap .u64 (d.getD a.toNat 0))))+(wrap .u64 (e.getD a.toNat 0)))) 4294967296,d,e,f.set (0+a.toNat) (wrap .u32 (wrap .u64 ((wrap .u64 (c+(wrap .u64 (d.getD a.toNat 0))))+(wrap .u64 (e.getD a.toNat 0))))),())else none else none else none else none else if decide (0<=a)then if decide (a<(f.length:Int))then g2 (wrap .i64 (a+1),b,Int.fdiv (wrap .u64 (c+(wrap .u64 (d.getD a.toNat 0)))) 4294967296,d,e,f.set (0+a.toNat) (wrap .u32 (wrap .u64 (c+(wrap .u64 (d.getD a.toNat 0))))),())else none else none else none else none else if decide (0<=(d.length:Int))then if decide ((d.length:Int)<(f.length:Int))then(S.i_nat_trim (f.set (0+(Int.toNat (d.length:Int))) (wrap .u32 c),())).bind fun y3=>some (y3.1,())else none else none) x1.1 x1.2.1 x1.2.2.1 x1.2.2.2.1 x1.2.2.2.2.1 x1.2.2.2.2.2.1
abbrev P.i_nat_add_b4 (x5:i_nat_add.A) (g6:i_nat_add.A->i_nat_add.B):i_nat_add.B:=
 (fun(a b c:Int) (d e f:List Int)=>if decide (a<b)then if decide (0<=a)then if decide (a<(d.length:Int))then if decide (a<(e.length:Int))then if decide (0<=a)then if decide (a<(e.length:Int))then if decide (0<=a)then if decide (a<(f.length:Int))then g6 (wrap .i64 (a+1),b,Int.fdiv (wrap .u64 ((wrap .u64 (c+(wrap .u64 (d.getD a.toNat 0))))+(wrap .u64 (e.getD a.toNat 0)))) 4294967296,d,e,f.set (0+a.toNat) (wrap .u32 (wrap .u64 ((wrap .u64 (c+(wrap .u64 (d.getD a.toNat 0))))+(wrap .u64 (e.getD a.toNat 0))))),())else none else none else none else none else if decide (0<=a)then if decide (a<(f.length:Int))then g6 (wrap .i64 (a+1),b,Int.fdiv (wrap .u64 (c+(wrap .u64 (d.getD a.toNat 0)))) 4294967296,d,e,f.set (0+a.toNat) (wrap .u32 (wrap .u64 (c+(wrap .u64 (d.getD a.toNat 0))))),())else none else none else none else none else if decide (0<=(d.length:Int))then if decide ((d.length:Int)<(f.length:Int))then(S.i_nat_trim (f.set (0+(Int.toNat (d.length:Int))) (wrap .u32 c),())).bind fun y7=>some (y7.1,())else none else none) x5.1 x5.2.1 x5.2.2.1 x5.2.2.2.1 x5.2.2.2.2.1 x5.2.2.2.2.2.1
def P.i_nat_add (k:Nat) (x:List Int×List Int×Unit):i_nat_add.B:=
 if decide ((x.1.length:Int)<(x.2.1.length:Int))then if decide (0<=(wrap .i64 ((x.2.1.length:Int)+1)))then if decide ((wrap .i64 ((x.2.1.length:Int)+1))<=(wrap .i64 ((x.2.1.length:Int)+1)))then if decide (((wrap .i64 ((x.2.1.length:Int)+1))*4)<=281474976710656)then loopP P.i_nat_add_b0 k (0,(x.2.1.length:Int),0,x.2.1,x.1,List.replicate (Int.toNat (wrap .i64 ((x.2.1.length:Int)+1))) 0,())else none else none else none else if decide (0<=(wrap .i64 ((x.1.length:Int)+1)))then if decide ((wrap .i64 ((x.1.length:Int)+1))<=(wrap .i64 ((x.1.length:Int)+1)))then if decide (((wrap .i64 ((x.1.length:Int)+1))*4)<=281474976710656)then loopP P.i_nat_add_b4 k (0,(x.1.length:Int),0,x.1,x.2.1,List.replicate (Int.toNat (wrap .i64 ((x.1.length:Int)+1))) 0,())else none else none else none
theorem add_loop (b:(Int×(Int×(Int×((List Int)×((List Int)×((List Int)×Unit))))))->((Int×(Int×(Int×((List Int)×((List Int)×((List Int)×Unit))))))->Option ((List Int)×Unit))->Option ((List Int)×Unit)) (hb:b=P.i_nat_add_b0)
  (xs ys:List Int) (hx:dig B32 xs=true) (hy:dig B32 ys=true) (hl:ys.length<=xs.length) (hbig:xs.length<=100000000000):
  loopP b (xs.length+1) ((0:Int),((xs.length:Int),((0:Int),(xs,(ys,(List.replicate (xs.length+1) 0,()))))))=some (nd B32 (dval B32 xs+dval B32 ys),()):=by
 subst hb;have key:=loop_up0 (k:=xs.length+1) (b:=P.i_nat_add_b0) (n:=xs.length) (st:=fun i=>((i:Int),(xs.length:Int),((addUp B32 xs ys i).2:Int),xs,ys,(addUp B32 xs ys i).1++List.replicate (xs.length+1 - i) 0,())) (F:=fun i=>some (nd B32 (dval B32 xs+dval B32 ys),())) (fun i g hi hg=>by
  unfold P.i_nat_add_b0;dsimp only at hg ⊢;obtain⟨q1,q2,q3,q4⟩:=addUp_ok B32_le hx hy i;have gx:=dig_getD (B:=B32) (by decide) hx i;have gy:=dig_getD (B:=B32) (by decide) hy i;have gx1:xs.getD i 0<4294967296:=gx.2;have gy1:ys.getD i 0<4294967296:=gy.2;have gx0:=gx.1;have gy0:=gy.1;have hlen:((addUp B32 xs ys i).1++List.replicate (xs.length+1 - i) (0:Int)).length=xs.length+1:=by rw[List.length_append,q2,List.length_replicate];omega
  have e1:(i:Int)<(xs.length:Int):=by omega
  have e2:(0:Int)<=(i:Int):=by omega
  have e3:(i:Int)<((xs.length+1:Nat):Int):=by omega
  have hset:∀v:Int,((addUp B32 xs ys i).1++List.replicate (xs.length+1 - i) (0:Int)).set i v=((addUp B32 xs ys i).1++[v])++List.replicate (xs.length+1 - (i+1)) 0:=by
   intro v;have z1:xs.length+1 - i=(xs.length+1 - (i+1))+1:=by omega
   rw[z1,List.replicate_succ,List.set_append_right _ _ (by omega),q2,Nat.sub_self,List.append_assoc];rfl
  rw[hlen];simp only[e1,e2,e3,decide_true,if_true,Nat.zero_add,Int.toNat_natCast,hset];have hnat:∀n:Nat,n=(addUp B32 xs ys i).2+(xs.getD i 0).toNat+(ys.getD i 0).toNat->(((n%B32:Nat):Int)=(n:Int)%4294967296/\((n/B32:Nat):Int)=(n:Int)/4294967296):=by
   intro n _;constructor
   ·show((n%4294967296:Nat):Int)=_;omega
   ·show((n/4294967296:Nat):Int)=_;omega
  obtain⟨n1,n2⟩:=hnat _ rfl;rw[addUp]at hg;dsimp only at hg;rw[n1,n2]at hg
  by_cases hj:(i:Int)<(ys.length:Int)
  ·rw[if_pos (decide_eq_true hj),if_pos (decide_eq_true hj)];rw[wu (x:=xs.getD i 0) (by omega) (by omega),wu (x:=ys.getD i 0) (by omega) (by omega),wu (x:=((addUp B32 xs ys i).2:Int)+xs.getD i 0) (by omega) (by omega),wu (x:=((addUp B32 xs ys i).2:Int)+xs.getD i 0+ys.getD i 0) (by omega) (by omega),u32_mod _ (by omega),Int.fdiv_eq_ediv_of_nonneg _ (by omega),wr (by omega) (by omega)];have e:(((addUp B32 xs ys i).2+(xs.getD i 0).toNat+(ys.getD i 0).toNat:Nat):Int)=((addUp B32 xs ys i).2:Int)+xs.getD i 0+ys.getD i 0:=by omega
   rw[e]at hg;exact hg
  ·rw[if_neg (by simpa using hj)];have y0:ys.getD i 0=0:=by rw[List.getD_eq_getElem?_getD,List.getElem?_eq_none (by omega)];rfl
   rw[wu (x:=xs.getD i 0) (by omega) (by omega),wu (x:=((addUp B32 xs ys i).2:Int)+xs.getD i 0) (by omega) (by omega),u32_mod _ (by omega),Int.fdiv_eq_ediv_of_nonneg _ (by omega),wr (by omega) (by omega)];have e:(((addUp B32 xs ys i).2+(xs.getD i 0).toNat+(ys.getD i 0).toNat:Nat):Int)=((addUp B32 xs ys i).2:Int)+xs.getD i 0:=by omega
   rw[e]at hg;exact hg) (fun g=>by
  unfold P.i_nat_add_b0;dsimp only;obtain⟨q1,q2,q3,q4⟩:=addUp_ok B32_le hx hy xs.length;have hlen:((addUp B32 xs ys xs.length).1++List.replicate (xs.length+1 - xs.length) (0:Int)).length=xs.length+1:=by rw[List.length_append,q2,List.length_replicate];omega
  have e2:(0:Int)<=(xs.length:Int):=by omega
  have e3:(xs.length:Int)<((xs.length+1:Nat):Int):=by omega
  rw[if_neg (by simp),hlen,if_pos (decide_eq_true e2),if_pos (decide_eq_true e3),Nat.zero_add,Int.toNat_natCast];have hset:∀v:Int,((addUp B32 xs ys xs.length).1++List.replicate (xs.length+1 - xs.length) (0:Int)).set xs.length v=(addUp B32 xs ys xs.length).1++[v]:=by
   intro v;have z1:xs.length+1 - xs.length=1:=by omega
   rw[z1,List.set_append_right _ _ (by omega),q2,Nat.sub_self];rfl
  rw[hset,w32 (by omega) (by omega)];have hd:dig B32 ((addUp B32 xs ys xs.length).1++[((addUp B32 xs ys xs.length).2:Int)])=true:=by
   rw[dig_append,q1,Bool.true_and,dig_cons];refine⟨⟨by omega,?_⟩,rfl⟩;show _<(4294967296:Int)
   omega
  rw[trim_i _ hd (by simp [q2];omega),Option.bind_some];have ev:dval B32 ((addUp B32 xs ys xs.length).1++[((addUp B32 xs ys xs.length).2:Int)])=dval B32 xs+dval B32 ys:=by
   rw[dval_append,q2];have e:dval B32 [((addUp B32 xs ys xs.length).2:Int)]=(addUp B32 xs ys xs.length).2:=by simp [dval]
   rw[e,q3,List.take_length,List.take_of_length_le hl]
  rw[ev]) (by omega)
 exact key
def S.i_nat_add (x:((List Int)×((List Int)×Unit))):(Option ((List Int)×Unit)):=if dig B32 x.1=true/\dig B32 x.2.1=true/\x.1.length<=10000000000/\x.2.1.length<=10000000000 then some (nd B32 (dval B32 x.1+dval B32 x.2.1),())else none
theorem S.i_nat_add_ok (x r) (h:S.i_nat_add x=some r):∃k,P.i_nat_add k x=some r:=by
 obtain⟨xs,ys,u⟩:=x;unfold S.i_nat_add at h;dsimp only at h;split at h
 case isFalse=>cases h
 rename_i hc;obtain⟨dx,dy,lx,ly⟩:=hc;cases h
 by_cases hlt:xs.length<ys.length
 ·refine⟨ys.length+1,?_⟩;unfold P.i_nat_add;dsimp only;have a1:(0:Int)<=(ys.length:Int)+1:=by omega
  have a3:((ys.length:Int)+1)*4<=281474976710656:=by omega
  rw[if_pos (decide_eq_true (by omega)),wr (by omega) (by omega),if_pos (decide_eq_true a1),if_pos (decide_eq_true (Int.le_refl _)),if_pos (decide_eq_true a3)];rw[show((ys.length:Int)+1).toNat=ys.length+1 by omega,add_loop P.i_nat_add_b0 rfl ys xs dy dx (by omega) (by omega),Nat.add_comm]
 ·refine⟨xs.length+1,?_⟩;unfold P.i_nat_add;dsimp only;have a1:(0:Int)<=(xs.length:Int)+1:=by omega
  have a3:((xs.length:Int)+1)*4<=281474976710656:=by omega
  rw[if_neg (by simp;omega),wr (by omega) (by omega),if_pos (decide_eq_true a1),if_pos (decide_eq_true (Int.le_refl _)),if_pos (decide_eq_true a3)];rw[show((xs.length:Int)+1).toNat=xs.length+1 by omega];exact add_loop P.i_nat_add_b4 rfl xs ys dx dy (by omega) (by omega)
abbrev i_nat_mul.A:=Int×Int×List Int×Int×Int×List Int×Int×List Int×Int×Int×List Int×Unit
abbrev i_nat_mul.B:=Int×Int×List Int×List Int×List Int×Unit
abbrev i_nat_mul.C:=Option (List Int×Unit)
abbrev P.i_nat_mul_b3 (g2:i_nat_mul.B->i_nat_mul.C) (x4:i_nat_mul.A) (g5:i_nat_mul.A->i_nat_mul.C):i_nat_mul.C:=
 (fun(a b d e h j l:Int) (c f i m:List Int)=>if decide (a<b)then if decide (0<=a)then if decide (a<(c.length:Int))then if decide (0<=(wrap .i64 (h+a)))then if decide ((wrap .i64 (h+a))<(f.length:Int))then if decide (0<=(wrap .i64 (h+a)))then if decide ((wrap .i64 (h+a))<(f.length:Int))then g5 (wrap .i64 (a+1),b,c,Int.fdiv (wrap .u64 (d+(wrap .u64 ((wrap .u64 ((wrap .u64 e)*(wrap .u64 (c.getD a.toNat 0))))+(wrap .u64 (f.getD (0+(Int.toNat (wrap .i64 (h+a)))) 0)))))) 4294967296,e,f.set (0+(Int.toNat (wrap .i64 (h+a)))) (wrap .u32 (wrap .u64 (d+(wrap .u64 ((wrap .u64 ((wrap .u64 e)*(wrap .u64 (c.getD a.toNat 0))))+(wrap .u64 (f.getD (0+(Int.toNat (wrap .i64 (h+a)))) 0))))))),h,i,j,l,m,())else none else none else none else none else none else none else if decide (0<=(wrap .i64 (h+(i.length:Int))))then if decide ((wrap .i64 (h+(i.length:Int)))<(f.length:Int))then g2 (wrap .i64 (j+1),l,m,i,f.set (0+(Int.toNat (wrap .i64 (h+(i.length:Int))))) (wrap .u32 d),())else none else none) x4.1 x4.2.1 x4.2.2.2.1 x4.2.2.2.2.1 x4.2.2.2.2.2.2.1 x4.2.2.2.2.2.2.2.2.1 x4.2.2.2.2.2.2.2.2.2.1 x4.2.2.1 x4.2.2.2.2.2.1 x4.2.2.2.2.2.2.2.1 x4.2.2.2.2.2.2.2.2.2.2.1
abbrev P.i_nat_mul_b0 (k:Nat) (x1:i_nat_mul.B) (g2:i_nat_mul.B->i_nat_mul.C):i_nat_mul.C:=
 if decide (x1.1<x1.2.1)then if decide (0<=x1.1)then if decide (x1.1<(x1.2.2.1.length:Int))then loopP (P.i_nat_mul_b3 g2) k (0,(x1.2.2.2.1.length:Int),x1.2.2.2.1,0,x1.2.2.1.getD x1.1.toNat 0,x1.2.2.2.2.1,x1.1,x1.2.2.2.1,x1.1,x1.2.1,x1.2.2.1,())else none else none else(S.i_nat_trim (x1.2.2.2.2.1,())).bind fun y6=>some (y6.1,())
def P.i_nat_mul (k:Nat) (x:List Int×List Int×Unit):i_nat_mul.C:=
 if decide (0<=(wrap .i64 ((x.1.length:Int)+(x.2.1.length:Int))))then if decide ((wrap .i64 ((x.1.length:Int)+(x.2.1.length:Int)))<=(wrap .i64 ((x.1.length:Int)+(x.2.1.length:Int))))then if decide (((wrap .i64 ((x.1.length:Int)+(x.2.1.length:Int)))*4)<=281474976710656)then loopP (P.i_nat_mul_b0 k) k (0,(x.1.length:Int),x.1,x.2.1,List.replicate (Int.toNat (wrap .i64 ((x.1.length:Int)+(x.2.1.length:Int)))) 0,())else none else none else none
theorem im_inner (g:(Int×(Int×((List Int)×((List Int)×((List Int)×Unit)))))->(Option ((List Int)×Unit))) (F:Option ((List Int)×Unit)) {xs ys:List Int} (hx:dig B32 xs=true) (hy:dig B32 ys=true) (hlx:xs.length<=10000000000) (hly:ys.length<=10000000000) {i:Nat} (hi:i<xs.length) (K:Nat) (hK:ys.length<K)
  (hg:g (((i+1:Nat):Int),((xs.length:Int),(xs,(ys,(fd B32 (xs.length+ys.length) (dval B32 (xs.take (i+1))*dval B32 ys),())))))=F):
  loopP (P.i_nat_mul_b3 g) K ((0:Int),((ys.length:Int),(ys,((0:Int),(xs.getD i 0,(fd B32 (xs.length+ys.length) (dval B32 (xs.take i)*dval B32 ys),((i:Int),(ys,((i:Int),((xs.length:Int),(xs,())))))))))))=F:=by
 have hA:=mul_bound B32_le hx hy i (by omega);have hA':=mul_bound B32_le hx hy (i+1) (by omega);have gx:=dig_getD (B:=B32) (by decide) hx i;have gx1:xs.getD i 0<4294967296:=gx.2;have gx0:=gx.1;rw[dval_take_succ,Nat.add_mul,Nat.mul_assoc]at hg hA';generalize dval B32 (xs.take i)*dval B32 ys=A at*;obtain⟨x,hxe⟩:∃x:Nat,xs.getD i 0=(x:Int):=⟨(xs.getD i 0).toNat,by omega⟩
 rw[hxe,Int.toNat_natCast]at hg hA';rw[hxe]at gx1 ⊢;have hxB:x<B32:=by show x<4294967296;omega
 have hsh:=mul_shape B32_le hi hA;rw[hsh];have hlw:(fd B32 ys.length (A/B32^i)).length=ys.length:=fd_len _ _ _;have hdw:dig B32 (fd B32 ys.length (A/B32^i))=true:=dig_fd (by decide) _ _;have hvw:dval B32 (fd B32 ys.length (A/B32^i))=A/B32^i:=by
  rw[dval_fd,Nat.mod_eq_of_lt];rw[Nat.div_lt_iff_lt_mul (Nat.pow_pos (by decide)),<-Nat.pow_add,Nat.add_comm];exact hA
 have hnext:=mul_next B32_le (la:=xs.length) (lb:=ys.length) (R:=x*dval B32 ys) hi hA';generalize hR:List.replicate (xs.length - 1 - i) (0:Int)=R at*;have hRl:R.length=xs.length - 1 - i:=by rw[<-hR,List.length_replicate]
 generalize hW:fd B32 ys.length (A/B32^i)=W at*;have hl0:(fd B32 i A).length=i:=fd_len _ _ _;have key:=loop_up0 (k:=K) (b:=P.i_nat_mul_b3 g) (n:=ys.length) (st:=fun k=>((k:Int),(ys.length:Int),ys,((maUp B32 x W ys k).2:Int),(x:Int),(fd B32 i A++(maUp B32 x W ys k).1)++(W.drop k++(0:Int)::R),(i:Int),ys,(i:Int),(xs.length:Int),xs,())) (F:=fun k=>F) (fun k g' hk hg'=>by
  unfold P.i_nat_mul_b3;dsimp only at hg' ⊢;refine Eq.trans ?_ hg';clear hg';obtain⟨q1,q2,q3,q4⟩:=maUp_ok (x:=x) B32_le hxB hdw hy k;have q4':(maUp B32 x W ys k).2<4294967296:=q4;have gy:=dig_getD (B:=B32) (by decide) hy k;have gw:=dig_getD (B:=B32) (by decide) hdw k;have gy1:ys.getD k 0<4294967296:=gy.2;have gw1:W.getD k 0<4294967296:=gw.2;have gy0:=gy.1;have gw0:=gw.1;have hAl:(fd B32 i A++(maUp B32 x W ys k).1).length=i+k:=by rw[List.length_append,hl0,q2]
  have hlen:((fd B32 i A++(maUp B32 x W ys k).1)++(W.drop k++(0:Int)::R)).length=xs.length+ys.length:=by
   rw[List.length_append,hAl,List.length_append,List.length_drop,List.length_cons,hlw,hRl];omega
  have e1:(k:Int)<(ys.length:Int):=by omega
  have e2:(0:Int)<=(k:Int):=by omega
  have e3:(0:Int)<=((i+k:Nat):Int):=by omega
  have e4:((i+k:Nat):Int)<((xs.length+ys.length:Nat):Int):=by omega
  rw[hlen,<-Int.natCast_add i k,wr (x:=((i+k:Nat):Int)) (by omega) (by omega)];simp only[e1,e2,e3,e4,decide_true,if_true,Nat.zero_add,Int.toNat_natCast];rw[drop_cons_getD (xs:=W) (i:=k) (by omega),List.cons_append,mid_get hAl];simp only[mid_set hAl];rw[maUp];dsimp only;generalize W.getD k 0=w at*;generalize ys.getD k 0=y at*;generalize maUp B32 x W ys k=p at*;obtain⟨pl,c0⟩:=p;dsimp only at*;obtain⟨Y,rfl⟩:∃Y:Nat,y=(Y:Int):=⟨y.toNat,by omega⟩
  obtain⟨w',rfl⟩:∃Y:Nat,w=(Y:Int):=⟨w.toNat,by omega⟩
  rw[Int.toNat_natCast,Int.toNat_natCast];have hxY:x*Y<=4294967295*4294967295:=Nat.mul_le_mul (by omega) (by omega);rw[wu (x:=(x:Int)) (by omega) (by omega),wu (x:=(Y:Int)) (by omega) (by omega),<-Int.natCast_mul,wu (x:=((x*Y:Nat):Int)) (by omega) (by omega),wu (x:=(w':Int)) (by omega) (by omega),<-Int.natCast_add,wu (x:=((x*Y+w':Nat):Int)) (by omega) (by omega),<-Int.natCast_add,wu (x:=((c0+(x*Y+w'):Nat):Int)) (by omega) (by omega),Int.fdiv_eq_ediv_of_nonneg _ (by omega),u32_emod,wr (x:=(k:Int)+1) (by omega) (by omega)];have e8:((c0+(x*Y+w'):Nat):Int)%4294967296=(((c0+(x*Y+w'))%B32:Nat):Int):=by
   show _=(((c0+(x*Y+w'))%4294967296:Nat):Int)
   omega
  have e9:((c0+(x*Y+w'):Nat):Int)/4294967296=(((c0+(x*Y+w'))/B32:Nat):Int):=by
   show _=(((c0+(x*Y+w'))/4294967296:Nat):Int)
   omega
  rw[e8,e9,<-List.append_assoc (fd B32 i A)];rfl) (fun g'=>by
  unfold P.i_nat_mul_b3;dsimp only;obtain⟨q1,q2,q3,q4⟩:=maUp_ok (x:=x) B32_le hxB hdw hy ys.length;have q4':(maUp B32 x W ys ys.length).2<4294967296:=q4;rw[List.take_length,<-hlw,List.take_length,hlw,hvw]at q3;have hAl:(fd B32 i A++(maUp B32 x W ys ys.length).1).length=i+ys.length:=by rw[List.length_append,hl0,q2]
  have hlen:((fd B32 i A++(maUp B32 x W ys ys.length).1)++(W.drop ys.length++(0:Int)::R)).length=xs.length+ys.length:=by
   rw[List.length_append,hAl,List.length_append,List.length_drop,List.length_cons,hlw,hRl];omega
  have e1:¬((ys.length:Int)<(ys.length:Int)):=by omega
  have e3:(0:Int)<=((i+ys.length:Nat):Int):=by omega
  have e4:((i+ys.length:Nat):Int)<((xs.length+ys.length:Nat):Int):=by omega
  rw[hlen,<-Int.natCast_add i ys.length,wr (x:=((i+ys.length:Nat):Int)) (by omega) (by omega)];simp only[e1,e3,e4,decide_true,decide_false,if_true,if_false,Bool.false_eq_true,Nat.zero_add,Int.toNat_natCast];rw[List.drop_of_length_le (by omega),List.nil_append,mid_set hAl,w32 (by omega) (by omega),wr (x:=(i:Int)+1) (by omega) (by omega)];generalize maUp B32 x W ys ys.length=p at*;obtain⟨pl,c0⟩:=p;dsimp only at*;have hlt:=dval_lt q1;rw[q2]at hlt;have hpl:pl=fd B32 ys.length (A/B32^i+x*dval B32 ys):=by
   have:=fd_eq B32_le q1 q2 rfl;rw[this,<-q3,<-fd_mod B32 ys.length (_+_),Nat.add_mul_mod_self_left,fd_mod]
  have hc0:c0=(A/B32^i+x*dval B32 ys)/B32^ys.length:=by
   rw[<-q3,Nat.add_mul_div_left _ _ (Nat.pow_pos (by decide)),Nat.div_eq_of_lt hlt,Nat.zero_add]
  rw[List.append_assoc _ [_],List.singleton_append,hpl,hc0,hnext];exact hg) hK
 rw[show(fd B32 i A++(maUp B32 x W ys 0).1)++(W.drop 0++(0:Int)::R)=(fd B32 i A++W)++(0:Int)::R by rw[show(maUp B32 x W ys 0).1=[]from rfl,List.append_nil,List.drop_zero,List.append_assoc]]at key;exact key
def S.i_nat_mul (x:((List Int)×((List Int)×Unit))):(Option ((List Int)×Unit)):=if dig B32 x.1=true/\dig B32 x.2.1=true/\x.1.length<=10000000000/\x.2.1.length<=10000000000 then some (nd B32 (dval B32 x.1*dval B32 x.2.1),())else none
theorem S.i_nat_mul_ok (x r) (h:S.i_nat_mul x=some r):∃k,P.i_nat_mul k x=some r:=by
 obtain⟨xs,ys,u⟩:=x;unfold S.i_nat_mul at h;dsimp only at h;split at h
 case isFalse=>cases h
 rename_i hc;obtain⟨dx,dy,lx,ly⟩:=hc;cases h;refine⟨xs.length+ys.length+1,?_⟩;unfold P.i_nat_mul;dsimp only;have a1:(0:Int)<=((xs.length+ys.length:Nat):Int):=by omega
 have a2:((xs.length+ys.length:Nat):Int)*4<=281474976710656:=by omega
 rw[<-Int.natCast_add,wr (x:=((xs.length+ys.length:Nat):Int)) (by omega) (by omega)];simp only[a1,a2,decide_true,if_true,Int.le_refl,Int.toNat_natCast];have key:=loop_up0 (k:=xs.length+ys.length+1) (b:=P.i_nat_mul_b0 (xs.length+ys.length+1)) (n:=xs.length) (st:=fun i=>((i:Int),(xs.length:Int),xs,ys,fd B32 (xs.length+ys.length) (dval B32 (xs.take i)*dval B32 ys),())) (F:=fun i=>some (nd B32 (dval B32 xs*dval B32 ys),())) (fun i g hi hg=>by
  unfold P.i_nat_mul_b0;dsimp only at hg ⊢;have e1:(i:Int)<(xs.length:Int):=by omega
  have e2:(0:Int)<=(i:Int):=by omega
  simp only[e1,e2,decide_true,if_true,Int.toNat_natCast];exact im_inner g _ dx dy lx ly hi _ (by omega) hg) (fun g=>by
  unfold P.i_nat_mul_b0;dsimp only;rw[if_neg (by simp),List.take_length];unfold S.i_nat_trim;dsimp only;have hb:=mul_bound B32_le dx dy xs.length (Nat.le_refl _);rw[List.take_length]at hb;rw[if_pos ⟨dig_fd (by decide) _ _,by rw[fd_len];omega⟩,Option.bind_some,nd_fd B32_le hb]) (by omega)
 rw[List.take_zero,show dval B32 []*dval B32 ys=0 by simp [dval],fd_zero]at key;exact key
def S.math_bits_LeadingZeros32 (x:(Int×Unit)):(Option (Int×Unit)):=if 0<=x.1/\x.1<=4294967295 then some (32 - (Go.Lib.bitLen x.1.toNat:Int),())else none
abbrev P.i_nat_divSmall_b0 (x1:Int×Int×List Int×List Int×Int×Unit) (g2:Int×Int×List Int×List Int×Int×Unit->Option ((List Int×Int)×Unit)):Option ((List Int×Int)×Unit):=
 (fun(a b e:Int) (c d:List Int)=>if decide (a>=0)then if decide (0<=a)then if decide (a<(c.length:Int))then if decide ((wrap .u64 e)=0)then none else if decide (0<=a)then if decide (a<(d.length:Int))then if decide ((wrap .u64 e)=0)then none else g2 (wrap .i64 (a - 1),Int.tmod (wrap .u64 ((wrap .u64 (b*4294967296))+(wrap .u64 (c.getD a.toNat 0)))) (wrap .u64 e),c,d.set (0+a.toNat) (wrap .u32 (wrap .u64 (Int.tdiv (wrap .u64 ((wrap .u64 (b*4294967296))+(wrap .u64 (c.getD a.toNat 0)))) (wrap .u64 e)))),e,())else none else none else none else none else(S.i_nat_trim (d,())).bind fun y3=>some ((y3.1,wrap .u32 b),())) x1.1 x1.2.1 x1.2.2.2.2.1 x1.2.2.1 x1.2.2.2.1
def P.i_nat_divSmall (k:Nat) (x:List Int×Int×Unit):Option ((List Int×Int)×Unit):=
 if decide (0<=(x.1.length:Int))then if decide ((x.1.length:Int)<=(x.1.length:Int))then if decide (((x.1.length:Int)*4)<=281474976710656)then loopP P.i_nat_divSmall_b0 k (wrap .i64 ((x.1.length:Int) - 1),0,x.1,List.replicate (Int.toNat (x.1.length:Int)) 0,x.2.1,())else none else none else none
def S.i_nat_divSmall (x:((List Int)×(Int×Unit))):(Option (((List Int)×Int)×Unit)):=if dig B32 x.1=true/\0<x.2.1/\x.2.1<4294967296/\x.1.length<=1000000000000 then some ((nd B32 (dval B32 x.1/x.2.1.toNat),((dval B32 x.1%x.2.1.toNat:Nat):Int)),())else none
theorem S.i_nat_divSmall_ok (x r) (h:S.i_nat_divSmall x=some r):∃k,P.i_nat_divSmall k x=some r:=by
 obtain⟨xs,b,u⟩:=x;unfold S.i_nat_divSmall at h;dsimp only at h;split at h
 case isFalse=>cases h
 rename_i hc;obtain⟨hd,hb0,hb1,hl⟩:=hc;cases h;refine⟨xs.length+1,?_⟩;unfold P.i_nat_divSmall;dsimp only;have a1:(0:Int)<=(xs.length:Int):=by omega
 have a2:(xs.length:Int)<=(xs.length:Int):=by omega
 have a3:(xs.length:Int)*4<=281474976710656:=by omega
 simp only[a1,a2,a3,decide_true,if_true];rw[wr (by omega) (by omega),Int.toNat_natCast];have hdr:∀m,dig B32 (xs.drop m)=true:=by
  intro m;have:=List.take_append_drop m xs;have hd':=hd;rw[<-this,dig_append,Bool.and_eq_true]at hd';exact hd'.2
 have hbN:0<b.toNat:=by omega
 have key:=loop_up0 (k:=xs.length+1) (b:=P.i_nat_divSmall_b0) (n:=xs.length) (st:=fun j=>((xs.length:Int) - 1 - (j:Int),((qdiv B32 b.toNat (xs.drop (xs.length - j))).2:Int),xs,List.replicate (xs.length - j) (0:Int)++(qdiv B32 b.toNat (xs.drop (xs.length - j))).1,b,())) (F:=fun j=>some ((nd B32 (dval B32 xs/b.toNat),((dval B32 xs%b.toNat:Nat):Int)),())) (fun j g hj hg=>by
  unfold P.i_nat_divSmall_b0;dsimp only at hg ⊢;obtain⟨q1,q2,q3,q4⟩:=qdiv_ok B32 b.toNat hbN (xs.drop (xs.length - j)) (hdr _);have hi:xs.length - (j+1)<xs.length:=by omega
  have e5:(xs.length:Int) - 1 - (j:Int)=((xs.length - (j+1):Nat):Int):=by omega
  have e6:xs.drop (xs.length - (j+1))=xs[xs.length - (j+1)]::xs.drop (xs.length - j):=by
   rw[List.drop_eq_getElem_cons hi];congr 2;omega
  have e7:xs.length - j=(xs.length - (j+1))+1:=by omega
  have hlen:(List.replicate (xs.length - j) (0:Int)++(qdiv B32 b.toNat (xs.drop (xs.length - j))).1).length=xs.length:=by
   rw[List.length_append,List.length_replicate,q2,List.length_drop];omega
  have hx:=dig_get hd hi;have hx1:xs[xs.length - (j+1)]<4294967296:=hx.2;have hx0:=hx.1;have hm:(qdiv B32 b.toNat (xs.drop (xs.length - j))).2<b.toNat:=by rw[q4];exact Nat.mod_lt _ hbN
  rw[e6]at hg;rw[hlen,e5,getD_cast xs _ _ hi];have a1:((xs.length - (j+1):Nat):Int)>=0:=by omega
  have a2:(0:Int)<=((xs.length - (j+1):Nat):Int):=by omega
  have a3:((xs.length - (j+1):Nat):Int)<(xs.length:Int):=by omega
  rw[wu (x:=b) (by omega) (by omega)];have a4:¬(b=0):=by omega
  simp only[a1,a3,a4,decide_true,decide_false,if_true,if_false,Bool.false_eq_true];generalize hR:(qdiv B32 b.toNat (xs.drop (xs.length - j))).2=R at*;generalize hX:xs[xs.length - (j+1)]=X at*;have hRX:(R:Int)*4294967296+X<b*4294967296:=by omega
  rw[wu (x:=(R:Int)*4294967296) (by omega) (by omega),wu (x:=X) (by omega) (by omega),wu (x:=(R:Int)*4294967296+X) (by omega) (by omega)];have eT:Int.tdiv ((R:Int)*4294967296+X) b=(((R*B32+X.toNat)/b.toNat:Nat):Int):=by
   rw[Int.tdiv_eq_ediv_of_nonneg (by omega)];have:(R:Int)*4294967296+X=((R*4294967296+X.toNat:Nat):Int):=by omega
   rw[this];have hb:b=((b.toNat:Nat):Int):=by omega
   conv=>lhs;rw[hb]
   exact(Int.natCast_ediv _ _).symm
  have eM:Int.tmod ((R:Int)*4294967296+X) b=(((R*B32+X.toNat)%b.toNat:Nat):Int):=by
   rw[Int.tmod_eq_emod_of_nonneg (by omega)];have:(R:Int)*4294967296+X=((R*4294967296+X.toNat:Nat):Int):=by omega
   rw[this];have hb:b=((b.toNat:Nat):Int):=by omega
   conv=>lhs;rw[hb]
   exact(Int.natCast_emod _ _).symm
  have hQ:(R*B32+X.toNat)/b.toNat<B32:=(Nat.div_lt_iff_lt_mul hbN).2 (by
   show R*4294967296+X.toNat<4294967296*b.toNat;omega)
  have hQ':(R*B32+X.toNat)/b.toNat<4294967296:=hQ;have z0:(0:Int)<=(((R*B32+X.toNat)/b.toNat:Nat):Int):=Int.natCast_nonneg _;have z1:(((R*B32+X.toNat)/b.toNat:Nat):Int)<4294967296:=Int.ofNat_lt.2 hQ';rw[eT,eM,wu z0 (Int.lt_trans z1 (by decide)),w32 z0 z1,wr (x:=((xs.length - (j+1):Nat):Int) - 1) (by omega) (by omega),Nat.zero_add,Int.toNat_natCast];have hset:∀(Q:List Int) (v:Int),(List.replicate (xs.length - j) (0:Int)++Q).set (xs.length - (j+1)) v=List.replicate (xs.length - (j+1)) 0++v::Q:=by
   intro Q v;rw[e7];exact set_back _ _ _
  rw[hset,<-hg];congr 1;simp only[Prod.mk.injEq,qdiv];rw[hR]
  and_intros<;>first|rfl|omega|trivial) (fun g=>by
  unfold P.i_nat_divSmall_b0;dsimp only;obtain⟨q1,q2,q3,q4⟩:=qdiv_ok B32 b.toNat hbN xs hd;rw[if_neg (by simp;omega),Nat.sub_self,List.drop_zero,List.replicate_zero,List.nil_append,trim_i _ q1 (by omega),Option.bind_some,q3,q4];have hm:=Nat.mod_lt (dval B32 xs) hbN;rw[w32 (by omega) (by omega)]) (by omega)
 rw[show(xs.length:Int) - 1 - ((0:Nat):Int)=(xs.length:Int) - 1 by omega,Nat.sub_zero,List.drop_length]at key;simpa [qdiv]using key
abbrev P.i_nat_shifted_b0 (x1:Int×Int×List Int×Int×List Int×Unit) (g2:Int×Int×List Int×Int×List Int×Unit->Option (List Int×Unit)):Option (List Int×Unit):=
 (fun(a b d:Int) (c e:List Int)=>if decide (a<b)then if decide (0<=a)then if decide (a<(c.length:Int))then if decide (d<0)then none else if decide (0<=a)then if decide (a<(e.length:Int))then if decide (0<=a)then if decide (a<(e.length:Int))then if decide (0<=(wrap .i64 (a+1)))then if decide ((wrap .i64 (a+1))<(List.length (e.set (0+a.toNat) (wrap .u32 ((BitVec.toNat ((BitVec.ofInt 32 (e.getD (0+a.toNat) 0))|||(BitVec.ofInt 32 (wrap .u32 (wrap .u64 ((wrap .u64 (c.getD a.toNat 0))*((2:Int)^(Min.min d.toNat 64))))))):Nat):Int))):Int))then g2 (wrap .i64 (a+1),b,c,d,List.set (e.set (0+a.toNat) (wrap .u32 ((BitVec.toNat ((BitVec.ofInt 32 (e.getD (0+a.toNat) 0))|||(BitVec.ofInt 32 (wrap .u32 (wrap .u64 ((wrap .u64 (c.getD a.toNat 0))*((2:Int)^(Min.min d.toNat 64))))))):Nat):Int))) (0+(Int.toNat (wrap .i64 (a+1)))) (wrap .u32 (Int.fdiv (wrap .u64 ((wrap .u64 (c.getD a.toNat 0))*((2:Int)^(Min.min d.toNat 64)))) 4294967296)),())else none else none else none else none else none else none else none else none else some (e,())) x1.1 x1.2.1 x1.2.2.2.1 x1.2.2.1 x1.2.2.2.2.1
def P.i_nat_shifted (k:Nat) (x:List Int×Int×Unit):Option (List Int×Unit):=
 if decide (0<=(wrap .i64 ((x.1.length:Int)+1)))then if decide ((wrap .i64 ((x.1.length:Int)+1))<=(wrap .i64 ((x.1.length:Int)+1)))then if decide (((wrap .i64 ((x.1.length:Int)+1))*4)<=281474976710656)then loopP P.i_nat_shifted_b0 k (0,(x.1.length:Int),x.1,x.2.1,List.replicate (Int.toNat (wrap .i64 ((x.1.length:Int)+1))) 0,())else none else none else none
def S.i_nat_shifted (x:((List Int)×(Int×Unit))):(Option ((List Int)×Unit)):=if dig B32 x.1=true/\0<=x.2.1/\x.2.1<=31/\x.1.length<=10000000000 then some (fd B32 (x.1.length+1) (dval B32 x.1*2^x.2.1.toNat),())else none
theorem S.i_nat_shifted_ok (x r) (h:S.i_nat_shifted x=some r):∃k,P.i_nat_shifted k x=some r:=by
 obtain⟨xs,by',u⟩:=x;unfold S.i_nat_shifted at h;dsimp only at h;split at h
 case isFalse=>cases h
 rename_i hc;obtain⟨hd,hb0,hb1,hl⟩:=hc;cases h;obtain⟨s,rfl⟩:∃d:Nat,by'=(d:Int):=⟨by'.toNat,by omega⟩
 rw[Int.toNat_natCast];have hs:s<=31:=by omega
 have hpow:0<2^s:=Nat.pow_pos (by decide);have hpow32:2^s<=2147483648:=Nat.le_trans (Nat.pow_le_pow_right (by decide) hs) (by decide);refine⟨xs.length+1,?_⟩;unfold P.i_nat_shifted;dsimp only;rw[wr (by omega) (by omega)];have a1:(0:Int)<=(xs.length:Int)+1:=by omega
 have a3:((xs.length:Int)+1)*4<=281474976710656:=by omega
 rw[if_pos (decide_eq_true a1),if_pos (decide_eq_true (Int.le_refl _)),if_pos (decide_eq_true a3)];have e0:List.replicate ((xs.length:Int)+1).toNat (0:Int)=(mulUp B32 (2^s) xs 0).1++(((mulUp B32 (2^s) xs 0).2:Int)::List.replicate (xs.length - 0) 0):=by
  rw[show((xs.length:Int)+1).toNat=xs.length+1 by omega,List.replicate_succ];rfl
 rw[e0];have key:=loop_up0 (k:=xs.length+1) (b:=P.i_nat_shifted_b0) (n:=xs.length) (st:=fun i=>((i:Int),(xs.length:Int),xs,(s:Int),(mulUp B32 (2^s) xs i).1++(((mulUp B32 (2^s) xs i).2:Int)::List.replicate (xs.length - i) 0),())) (F:=fun i=>some (fd B32 (xs.length+1) (dval B32 xs*2^s),())) (fun i g hi hg=>by
  unfold P.i_nat_shifted_b0;dsimp only at hg ⊢;obtain⟨q1,q2,q3,q4⟩:=mulUp_ok (d:=2^s) B32_le hd i (by omega);have hlen:((mulUp B32 (2^s) xs i).1++(((mulUp B32 (2^s) xs i).2:Int)::List.replicate (xs.length - i) 0)).length=xs.length+1:=by rw[List.length_append,q2,List.length_cons,List.length_replicate];omega
  have e1:(i:Int)<(xs.length:Int):=by omega
  have e2:(0:Int)<=(i:Int):=by omega
  have e3:(i:Int)<((xs.length+1:Nat):Int):=by omega
  have e4:¬((s:Int)<0):=by omega
  rw[hlen];simp only[e1,e2,e3,e4,decide_true,decide_false,if_true,Nat.zero_add,Int.toNat_natCast,List.length_set,hlen,Bool.false_eq_true,if_false];rw[wr (x:=(i:Int)+1) (by omega) (by omega)];have e5:(0:Int)<=(i:Int)+1:=by omega
  have e6:(i:Int)+1<((xs.length+1:Nat):Int):=by omega
  simp only[e5,e6,decide_true,if_true];have hgD:xs.getD i 0=xs[i]:=by simp [hi]
  have hx:=dig_get hd hi;have hx1:xs[i]<4294967296:=hx.2;have hx0:=hx.1;rw[mulUp,hgD]at hg;rw[hgD];have hcar:(mulUp B32 (2^s) xs i).2<2^s:=by
   have h1:dval B32 (xs.take i)<B32^i:=by
    have h0:dig B32 (xs.take i)=true:=by
     have:=List.take_append_drop i xs;rw[<-this,dig_append,Bool.and_eq_true]at hd;exact hd.1
    have:=dval_lt h0;rwa [show(xs.take i).length=i by simp;omega]at this
   have h2:dval B32 (xs.take i)*2^s<B32^i*2^s:=Nat.mul_lt_mul_of_pos_right h1 hpow;exact Nat.lt_of_mul_lt_mul_left (a:=B32^i) (by omega)
  generalize hP:mulUp B32 (2^s) xs i=p at*;obtain⟨z,hz⟩:∃z:Nat,xs[i]=(z:Int):=⟨xs[i].toNat,(Int.toNat_of_nonneg hx0).symm⟩
  rw[hz]at hx1 hg ⊢;rw[Int.toNat_natCast]at hg;have hz32:z<2^32:=by omega
  have hzp:z*2^s<18446744073709551616:=Nat.lt_of_lt_of_le (Nat.mul_lt_mul_of_pos_right hz32 hpow) (by have:=Nat.mul_le_mul_left (2^32) hpow32;omega);have emin:Min.min s 64=s:=by omega
  have ep:((2:Int)^s)=((2^s:Nat):Int):=by rw[Int.natCast_pow];rfl
  have em:(z:Int)*((2^s:Nat):Int)=((z*2^s:Nat):Int):=(Int.natCast_mul _ _).symm;rw[wu (x:=(z:Int)) (by omega) (by omega),emin,ep,em,wu (x:=((z*2^s:Nat):Int)) (by omega) (by omega)];have g1:(p.1++((p.2:Int)::List.replicate (xs.length - i) 0)).getD i 0=(p.2:Int):=by
   rw[List.getD_eq_getElem?_getD,List.getElem?_append_right (by omega),q2,Nat.sub_self];rfl
  rw[g1,u32_mod ((z*2^s:Nat):Int) (by omega)];have e7:((z*2^s:Nat):Int)%4294967296=((z*2^s%2^32:Nat):Int):=by
   show _=((z*2^s%4294967296:Nat):Int)
   omega
  have hlow:=shl_low z s (by omega);have hor:p.2|||(z*2^s%2^32)=p.2+z*2^s%2^32:=by rw[hlow,or_apart _ _ _ hcar]
  have hmlt:z*2^s%2^32<2^32:=Nat.mod_lt _ (by decide);have hsum:p.2+z*2^s%2^32<2^32:=by
   have h1:z%2^(32 - s)+1<=2^(32 - s):=Nat.mod_lt _ (Nat.pow_pos (by decide));have h2:2^s*(z%2^(32 - s)+1)<=2^s*2^(32 - s):=Nat.mul_le_mul_left _ h1;rw[<-Nat.pow_add,show s+(32 - s)=32 by omega,Nat.mul_add]at h2;omega
  rw[e7,bv_or _ _ (by omega) hmlt,hor,w32 (by omega) (by omega),Int.fdiv_eq_ediv_of_nonneg _ (by omega)];have hq:z*2^s/4294967296<4294967296:=(Nat.div_lt_iff_lt_mul (by decide)).2 (by omega);have e8:((z*2^s:Nat):Int)/4294967296=((z*2^s/4294967296:Nat):Int):=by omega
  rw[e8,w32 (by omega) (by omega)];have e9:(z*2^s+p.2)%B32=p.2+z*2^s%2^32:=by
   show(z*2^s+p.2)%4294967296=p.2+z*2^s%4294967296;omega
  have e10:(z*2^s+p.2)/B32=z*2^s/4294967296:=by
   show(z*2^s+p.2)/4294967296=_;omega
  rw[e9,e10]at hg;have z1:xs.length - i=(xs.length - (i+1))+1:=by omega
  rw[z1,List.replicate_succ,List.set_append_right _ _ (by omega),q2,Nat.sub_self,List.set_cons_zero,List.set_append_right _ _ (by omega),q2,show((i:Int)+1).toNat - i=1 by omega,List.set_cons_succ,List.set_cons_zero];rw[List.append_assoc]at hg;exact hg) (fun g=>by
  unfold P.i_nat_shifted_b0;dsimp only;obtain⟨q1,q2,q3,q4⟩:=mulUp_ok (d:=2^s) B32_le hd xs.length (Nat.le_refl _);rw[List.take_length]at q3;have hcar:(mulUp B32 (2^s) xs xs.length).2<2^s:=by
   have h2:dval B32 xs*2^s<B32^xs.length*2^s:=Nat.mul_lt_mul_of_pos_right (dval_lt hd) hpow;exact Nat.lt_of_mul_lt_mul_left (a:=B32^xs.length) (by omega)
  rw[if_neg (by simp),Nat.sub_self];generalize mulUp B32 (2^s) xs xs.length=p at*;have hdd:dig B32 (p.1++[(p.2:Int)])=true:=by
   rw[dig_append,q1,Bool.true_and,dig_cons];refine⟨⟨Int.natCast_nonneg _,?_⟩,rfl⟩;show(p.2:Int)<4294967296;omega
  have:=fd_dval (B:=B32) (by decide) hdd;rw[dval_append,q2,show dval B32 [(p.2:Int)]=p.2 by simp [dval],q3,List.length_append,q2]at this;show some (p.1++[(p.2:Int)],())=_;rw[<-this];rfl) (by omega)
 exact key
abbrev i_takeAway.A:=Option (Bool×List Int×Unit)
abbrev P.i_takeAway_b3 (x4:Int×Int×Int×List Int×List Int×Unit) (g5:Int×Int×Int×List Int×List Int×Unit->i_takeAway.A):i_takeAway.A:=
 (fun(a b c:Int) (d e:List Int)=>if decide (a<b)then if decide (0<=a)then if decide (a<(d.length:Int))then if decide (a<(e.length:Int))then if decide (0<=a)then if decide (a<(e.length:Int))then if decide (0<=a)then if decide (a<(d.length:Int))then g5 (wrap .i64 (a+1),b,Int.fdiv (wrap .u64 ((wrap .u64 (c+(wrap .u64 (d.getD (0+a.toNat) 0))))+(wrap .u64 (e.getD a.toNat 0)))) 4294967296,d.set (0+a.toNat) (wrap .u32 (wrap .u64 ((wrap .u64 (c+(wrap .u64 (d.getD (0+a.toNat) 0))))+(wrap .u64 (e.getD a.toNat 0))))),e,())else none else none else none else none else if decide (0<=a)then if decide (a<(d.length:Int))then g5 (wrap .i64 (a+1),b,Int.fdiv (wrap .u64 (c+(wrap .u64 (d.getD (0+a.toNat) 0)))) 4294967296,d.set (0+a.toNat) (wrap .u32 (wrap .u64 (c+(wrap .u64 (d.getD (0+a.toNat) 0))))),e,())else none else none else none else none else some (true,d,())) x4.1 x4.2.1 x4.2.2.1 x4.2.2.2.1 x4.2.2.2.2.1
abbrev P.i_takeAway_b0 (k:Nat) (x1:Int×Int×List Int×Int×Int×List Int×Int×Unit) (g2:Int×Int×List Int×Int×Int×List Int×Int×Unit->i_takeAway.A):i_takeAway.A:=
 (fun(a b d e h:Int) (c f:List Int)=>if decide (a<b)then if decide (a<(c.length:Int))then if decide (0<=a)then if decide (a<(c.length:Int))then if decide (0<=a)then if decide (a<(f.length:Int))then if decide ((wrap .i64 ((wrap .i64 ((wrap .i64 (f.getD (0+a.toNat) 0)) - (wrap .i64 (wrap .u32 (wrap .u64 (d+(wrap .u64 (e*(wrap .u64 (c.getD a.toNat 0)))))))))) - h))<0)then if decide (0<=a)then if decide (a<(f.length:Int))then g2 (wrap .i64 (a+1),b,c,Int.fdiv (wrap .u64 (d+(wrap .u64 (e*(wrap .u64 (c.getD a.toNat 0)))))) 4294967296,e,f.set (0+a.toNat) (wrap .u32 (wrap .i64 ((wrap .i64 ((wrap .i64 (f.getD (0+a.toNat) 0)) - (wrap .i64 (wrap .u32 (wrap .u64 (d+(wrap .u64 (e*(wrap .u64 (c.getD a.toNat 0)))))))))) - h))),1,())else none else none else if decide (0<=a)then if decide (a<(f.length:Int))then g2 (wrap .i64 (a+1),b,c,Int.fdiv (wrap .u64 (d+(wrap .u64 (e*(wrap .u64 (c.getD a.toNat 0)))))) 4294967296,e,f.set (0+a.toNat) (wrap .u32 (wrap .i64 ((wrap .i64 ((wrap .i64 (f.getD (0+a.toNat) 0)) - (wrap .i64 (wrap .u32 (wrap .u64 (d+(wrap .u64 (e*(wrap .u64 (c.getD a.toNat 0)))))))))) - h))),0,())else none else none else none else none else none else none else if decide (0<=a)then if decide (a<(f.length:Int))then if decide ((wrap .i64 ((wrap .i64 ((wrap .i64 (f.getD (0+a.toNat) 0)) - (wrap .i64 (wrap .u32 d)))) - h))<0)then if decide (0<=a)then if decide (a<(f.length:Int))then g2 (wrap .i64 (a+1),b,c,Int.fdiv d 4294967296,e,f.set (0+a.toNat) (wrap .u32 (wrap .i64 ((wrap .i64 ((wrap .i64 (f.getD (0+a.toNat) 0)) - (wrap .i64 (wrap .u32 d)))) - h))),1,())else none else none else if decide (0<=a)then if decide (a<(f.length:Int))then g2 (wrap .i64 (a+1),b,c,Int.fdiv d 4294967296,e,f.set (0+a.toNat) (wrap .u32 (wrap .i64 ((wrap .i64 ((wrap .i64 (f.getD (0+a.toNat) 0)) - (wrap .i64 (wrap .u32 d)))) - h))),0,())else none else none else none else none else if h==0 then if d==0 then some (false,f,())else loopP P.i_takeAway_b3 k (0,(f.length:Int),0,f,c,())else loopP P.i_takeAway_b3 k (0,(f.length:Int),0,f,c,())) x1.1 x1.2.1 x1.2.2.2.1 x1.2.2.2.2.1 x1.2.2.2.2.2.2.1 x1.2.2.1 x1.2.2.2.2.2.1
def P.i_takeAway (k:Nat) (x:List Int×List Int×Int×Unit):i_takeAway.A:=
 loopP (P.i_takeAway_b0 k) k (0,(x.1.length:Int),x.2.1,0,x.2.2.1,x.1,0,())
theorem takeBack (b:(Int×(Int×(Int×((List Int)×((List Int)×Unit)))))->((Int×(Int×(Int×((List Int)×((List Int)×Unit)))))->Option (Bool×((List Int)×Unit)))->Option (Bool×((List Int)×Unit))) (hb:b=P.i_takeAway_b3)
  (xs ys:List Int) (hx:dig B32 xs=true) (hy:dig B32 ys=true) (hl:ys.length<=xs.length) (hbig:xs.length<=100000000000):
  loopP b (xs.length+1) ((0:Int),((xs.length:Int),((0:Int),(xs,(ys,())))))=some (true,fd B32 xs.length (dval B32 xs+dval B32 ys),()):=by
 subst hb;have key:=loop_up0 (k:=xs.length+1) (b:=P.i_takeAway_b3) (n:=xs.length) (st:=fun i=>((i:Int),(xs.length:Int),((addUp B32 xs ys i).2:Int),(addUp B32 xs ys i).1++xs.drop i,ys,())) (F:=fun i=>some (true,fd B32 xs.length (dval B32 xs+dval B32 ys),())) (fun i g hi hg=>by
  unfold P.i_takeAway_b3;dsimp only at hg ⊢;obtain⟨q1,q2,q3,q4⟩:=addUp_ok B32_le hx hy i;have gx:=dig_getD (B:=B32) (by decide) hx i;have gy:=dig_getD (B:=B32) (by decide) hy i;have gx1:xs.getD i 0<4294967296:=gx.2;have gy1:ys.getD i 0<4294967296:=gy.2;have gx0:=gx.1;have gy0:=gy.1;have hlen:((addUp B32 xs ys i).1++xs.drop i).length=xs.length:=by rw[List.length_append,q2,List.length_drop];omega
  have e1:(i:Int)<(xs.length:Int):=by omega
  have e2:(0:Int)<=(i:Int):=by omega
  rw[hlen];simp only[e1,e2,decide_true,if_true,Nat.zero_add,Int.toNat_natCast];rw[drop_cons_getD hi,mid_get q2];simp only[mid_set q2];have hnat:∀n:Nat,n=(addUp B32 xs ys i).2+(xs.getD i 0).toNat+(ys.getD i 0).toNat->(((n%B32:Nat):Int)=(n:Int)%4294967296/\((n/B32:Nat):Int)=(n:Int)/4294967296):=by
   intro n _;constructor
   ·show((n%4294967296:Nat):Int)=_;omega
   ·show((n/4294967296:Nat):Int)=_;omega
  obtain⟨n1,n2⟩:=hnat _ rfl;rw[addUp]at hg;dsimp only at hg;rw[n1,n2]at hg
  by_cases hj:(i:Int)<(ys.length:Int)
  ·rw[if_pos (decide_eq_true hj),if_pos (decide_eq_true hj)];rw[wu (x:=xs.getD i 0) (by omega) (by omega),wu (x:=ys.getD i 0) (by omega) (by omega),wu (x:=((addUp B32 xs ys i).2:Int)+xs.getD i 0) (by omega) (by omega),wu (x:=((addUp B32 xs ys i).2:Int)+xs.getD i 0+ys.getD i 0) (by omega) (by omega),u32_mod _ (by omega),Int.fdiv_eq_ediv_of_nonneg _ (by omega),wr (by omega) (by omega)];have e:(((addUp B32 xs ys i).2+(xs.getD i 0).toNat+(ys.getD i 0).toNat:Nat):Int)=((addUp B32 xs ys i).2:Int)+xs.getD i 0+ys.getD i 0:=by omega
   rw[e]at hg;exact hg
  ·rw[if_neg (by simpa using hj)];have y0:ys.getD i 0=0:=by rw[List.getD_eq_getElem?_getD,List.getElem?_eq_none (by omega)];rfl
   rw[wu (x:=xs.getD i 0) (by omega) (by omega),wu (x:=((addUp B32 xs ys i).2:Int)+xs.getD i 0) (by omega) (by omega),u32_mod _ (by omega),Int.fdiv_eq_ediv_of_nonneg _ (by omega),wr (by omega) (by omega)];have e:(((addUp B32 xs ys i).2+(xs.getD i 0).toNat+(ys.getD i 0).toNat:Nat):Int)=((addUp B32 xs ys i).2:Int)+xs.getD i 0:=by omega
   rw[e]at hg;exact hg) (fun g=>by
  unfold P.i_takeAway_b3;dsimp only;rw[if_neg (by simp),List.drop_length,List.append_nil,addUp_fd B32_le hx hy hl]) (by omega)
 have e0:(addUp B32 xs ys 0).1++xs.drop 0=xs:=rfl;rw[e0]at key;exact key
def S.i_takeAway (x:((List Int)×((List Int)×(Int×Unit)))):(Option (Bool×((List Int)×Unit))):=
 if dig B32 x.1=true/\dig B32 x.2.1=true/\0<=x.2.2.1/\x.2.2.1<4294967296/\x.2.1.length<=x.1.length/\x.1.length<=10000000000/\dval B32 x.2.1*x.2.2.1.toNat<=dval B32 x.1+dval B32 x.2.1 then
  (if dval B32 x.2.1*x.2.2.1.toNat<=dval B32 x.1 then some (false,fd B32 x.1.length (dval B32 x.1 - dval B32 x.2.1*x.2.2.1.toNat),())
   else some (true,fd B32 x.1.length (dval B32 x.1+dval B32 x.2.1 - dval B32 x.2.1*x.2.2.1.toNat),()))else none
theorem S.i_takeAway_ok (x r) (h:S.i_takeAway x=some r):∃k,P.i_takeAway k x=some r:=by
 obtain⟨xs,ys,t',u⟩:=x;unfold S.i_takeAway at h;dsimp only at h;split at h
 case isFalse=>cases h
 rename_i hc;obtain⟨hx,hy,ht0,ht1,hl,hbig,hfit⟩:=hc;obtain⟨t,rfl⟩:∃d:Nat,t'=(d:Int):=⟨t'.toNat,by omega⟩
 rw[Int.toNat_natCast]at h hfit;have ht:t<=4294967295:=by omega
 refine⟨xs.length+1,?_⟩;rw[<-h];unfold P.i_takeAway;dsimp only;have key:=loop_up0 (k:=xs.length+1) (b:=P.i_takeAway_b0 (xs.length+1)) (n:=xs.length) (st:=fun i=>((i:Int),(xs.length:Int),ys,((takeUp B32 t xs ys i).2.1:Int),(t:Int),(takeUp B32 t xs ys i).1++xs.drop i,((takeUp B32 t xs ys i).2.2:Int),())) (F:=fun i=>(if dval B32 ys*t<=dval B32 xs then some (false,fd B32 xs.length (dval B32 xs - dval B32 ys*t),())
   else some (true,fd B32 xs.length (dval B32 xs+dval B32 ys - dval B32 ys*t),()))) (fun i g hi hg=>by
  unfold P.i_takeAway_b0;dsimp only at hg ⊢;obtain⟨q1,q2,q3,q4,q5⟩:=takeUp_ok (t:=t) B32_le hx hy i;have gx:=dig_getD (B:=B32) (by decide) hx i;have gy:=dig_getD (B:=B32) (by decide) hy i;have gx1:xs.getD i 0<4294967296:=gx.2;have gy1:ys.getD i 0<4294967296:=gy.2;have gx0:=gx.1;have gy0:=gy.1;have hlen:((takeUp B32 t xs ys i).1++xs.drop i).length=xs.length:=by rw[List.length_append,q2,List.length_drop];omega
  have e1:(i:Int)<(xs.length:Int):=by omega
  have e2:(0:Int)<=(i:Int):=by omega
  rw[hlen];simp only[e1,e2,decide_true,if_true,Nat.zero_add,Int.toNat_natCast];rw[drop_cons_getD hi,mid_get q2];simp only[mid_set q2];rw[takeUp]at hg;dsimp only at hg;have y0:¬((i:Int)<(ys.length:Int))->ys.getD i 0=0:=by
   intro hj;rw[List.getD_eq_getElem?_getD,List.getElem?_eq_none (by omega)];rfl
  generalize xs.getD i 0=x at*;generalize ys.getD i 0=y at*;generalize takeUp B32 t xs ys i=p at*;obtain⟨pl,c0,l0⟩:=p;dsimp only at*;obtain⟨Y,rfl⟩:∃Y:Nat,y=(Y:Int):=⟨y.toNat,by omega⟩
  rw[Int.toNat_natCast]at hg;have htY:t*Y<=4294967295*4294967295:=Nat.mul_le_mul ht (by omega);have em:(t:Int)*(Y:Int)=((t*Y:Nat):Int):=(Int.natCast_mul _ _).symm;have fin:∀c:Nat,c=c0+t*Y->(let n:=IntKind.wrap .i64 (IntKind.wrap .i64 (IntKind.wrap .i64 x - IntKind.wrap .i64 (IntKind.wrap .u32 (c:Int))) - (l0:Int))
    (if decide (n<0)=true then g (IntKind.wrap .i64 ((i:Int)+1),(xs.length:Int),ys,Int.fdiv (c:Int) 4294967296,(t:Int),(pl++[IntKind.wrap .u32 n])++xs.drop (i+1),1,())
     else g (IntKind.wrap .i64 ((i:Int)+1),(xs.length:Int),ys,Int.fdiv (c:Int) 4294967296,(t:Int),(pl++[IntKind.wrap .u32 n])++xs.drop (i+1),0,()))=(if dval B32 ys*t<=dval B32 xs then some (false,fd B32 xs.length (dval B32 xs - dval B32 ys*t),())
   else some (true,fd B32 xs.length (dval B32 xs+dval B32 ys - dval B32 ys*t),()))):=by
   intro c hcc;rw[<-hcc]at hg;have e8:(c:Int)%4294967296=((c%B32:Nat):Int):=by
    show _=((c%4294967296:Nat):Int)
    omega
   have e9:Int.fdiv (c:Int) 4294967296=((c/B32:Nat):Int):=by
    rw[Int.fdiv_eq_ediv_of_nonneg _ (by omega)];show _=((c/4294967296:Nat):Int)
    omega
   have e10:c%B32<4294967296:=Nat.mod_lt _ (by decide);rw[u32_mod (c:Int) (by omega),e8,e9,wr (x:=(i:Int)+1) (by omega) (by omega),wr (x:=x) (by omega) (by omega),wr (x:=((c%B32:Nat):Int)) (by omega) (by omega),wr (x:=x - ((c%B32:Nat):Int)) (by omega) (by omega),wr (x:=x - ((c%B32:Nat):Int) - (l0:Int)) (by omega) (by omega)];dsimp only;rw[u32_emod]
   by_cases hn:x - ((c%B32:Nat):Int) - (l0:Int)<0
   ·rw[if_pos hn]at hg;rw[if_pos (decide_eq_true hn)];exact hg
   ·rw[if_neg hn]at hg;rw[if_neg (by simpa using hn)];exact hg
  by_cases hj:(i:Int)<(ys.length:Int)
  ·simp only[hj,decide_true,if_true];rw[wu (x:=(Y:Int)) (by omega) (by omega),em,wu (x:=((t*Y:Nat):Int)) (by omega) (by omega),<-Int.natCast_add,wu (x:=((c0+t*Y:Nat):Int)) (by omega) (by omega)];exact fin _ rfl
  ·rw[if_neg (by simpa using hj)];have hY:Y=0:=by have:=y0 hj;omega
   subst hY;exact fin c0 rfl) (fun g=>by
  unfold P.i_takeAway_b0;dsimp only;obtain⟨q1,q2,q3,q4,q5⟩:=takeUp_ok (t:=t) B32_le hx hy xs.length;rw[List.take_length,List.take_of_length_le hl]at q3;rw[if_neg (by simp),List.drop_length,List.append_nil];generalize takeUp B32 t xs ys xs.length=p at*;obtain⟨pl,c0,l0⟩:=p;dsimp only at*;have hlt:=dval_lt q1;rw[q2]at hlt;have hback:∀b,b=P.i_takeAway_b3->0<c0+l0->loopP b (xs.length+1) ((0:Int),((pl.length:Int),((0:Int),(pl,(ys,())))))=(if dval B32 ys*t<=dval B32 xs then some (false,fd B32 xs.length (dval B32 xs - dval B32 ys*t),())
   else some (true,fd B32 xs.length (dval B32 xs+dval B32 ys - dval B32 ys*t),())):=by
   intro b hb hpos;have hge:B32^xs.length*1<=B32^xs.length*(c0+l0):=Nat.mul_le_mul_left _ hpos;rw[if_neg (by omega)];have:=takeBack b hb pl ys q1 hy (by omega) (by omega);rw[q2]at this;rw[q2,this];congr 2;have e1:dval B32 pl+dval B32 ys=(dval B32 xs+dval B32 ys - dval B32 ys*t)+B32^xs.length*(c0+l0):=by omega
   rw[e1,<-fd_mod B32 xs.length (_+_),Nat.add_mul_mod_self_left,fd_mod]
  by_cases hl0:l0=0
  ·subst hl0;rw[if_pos (by rfl)]
   by_cases hc0:c0=0
   ·subst hc0;rw[if_pos (by rfl),if_pos (by omega)];congr 2;have:pl=fd B32 xs.length (dval B32 xs - dval B32 ys*t):=fd_eq B32_le q1 q2 (by omega);rw[this]
   ·rw[if_neg (by simp;omega)];exact hback _ rfl (by omega)
  ·rw[if_neg (by simp;omega)];exact hback _ rfl (by omega)) (by omega)
 exact key
abbrev i_nat_div.A:=Int×Int×Int×List Int×Int×Int×Int×List Int×List Int×Int×Unit
abbrev i_nat_div.B:=Int×List Int×List Int×Int×Int×List Int×Int×Unit
abbrev i_nat_div.C:=Option ((List Int×List Int)×Unit)
abbrev P.i_nat_div_b21 (g20:i_nat_div.B->i_nat_div.C) (x22:i_nat_div.A) (g23:i_nat_div.A->i_nat_div.C):i_nat_div.C:=
 (fun(a b c e f h l:Int) (d i j:List Int)=>if decide (a>=4294967296)then if decide ((wrap .u64 (c+f))>=4294967296)then if decide (0<=(wrap .i64 (e+1)))then if decide (((wrap .i64 (e+1))+0)<=(d.length:Int))then if decide (0<=h)then if decide (h<=(wrap .i64 (e+1)))then(S.i_takeAway (seen d (0+h.toNat) ((Int.toNat (wrap .i64 (e+1))) - h.toNat),i,wrap .u64 (a - 1),())).bind fun y24=>if y24.1 then if decide (0<=h)then if decide (h<(j.length:Int))then g20 (wrap .i64 (h - 1),i,splice d y24.2.1 (0+h.toNat),f,b,j.set (0+h.toNat) (wrap .u32 (wrap .u64 ((wrap .u64 (a - 1)) - 1))),l,())else none else none else if decide (0<=h)then if decide (h<(j.length:Int))then g20 (wrap .i64 (h - 1),i,splice d y24.2.1 (0+h.toNat),f,b,j.set (0+h.toNat) (wrap .u32 (wrap .u64 (a - 1))),l,())else none else none else none else none else none else none else g23 (wrap .u64 (a - 1),b,wrap .u64 (c+f),d,e,f,h,i,j,l,())else if decide (0<=(wrap .i64 (e - 2)))then if decide ((wrap .i64 (e - 2))<(d.length:Int))then if decide ((wrap .u64 (a*b))>(wrap .u64 ((wrap .u64 (c*4294967296))+(wrap .u64 (d.getD (0+(Int.toNat (wrap .i64 (e - 2)))) 0)))))then if decide ((wrap .u64 (c+f))>=4294967296)then if decide (0<=(wrap .i64 (e+1)))then if decide (((wrap .i64 (e+1))+0)<=(d.length:Int))then if decide (0<=h)then if decide (h<=(wrap .i64 (e+1)))then(S.i_takeAway (seen d (0+h.toNat) ((Int.toNat (wrap .i64 (e+1))) - h.toNat),i,wrap .u64 (a - 1),())).bind fun y25=>if y25.1 then if decide (0<=h)then if decide (h<(j.length:Int))then g20 (wrap .i64 (h - 1),i,splice d y25.2.1 (0+h.toNat),f,b,j.set (0+h.toNat) (wrap .u32 (wrap .u64 ((wrap .u64 (a - 1)) - 1))),l,())else none else none else if decide (0<=h)then if decide (h<(j.length:Int))then g20 (wrap .i64 (h - 1),i,splice d y25.2.1 (0+h.toNat),f,b,j.set (0+h.toNat) (wrap .u32 (wrap .u64 (a - 1))),l,())else none else none else none else none else none else none else g23 (wrap .u64 (a - 1),b,wrap .u64 (c+f),d,e,f,h,i,j,l,())else if decide (0<=(wrap .i64 (e+1)))then if decide (((wrap .i64 (e+1))+0)<=(d.length:Int))then if decide (0<=h)then if decide (h<=(wrap .i64 (e+1)))then(S.i_takeAway (seen d (0+h.toNat) ((Int.toNat (wrap .i64 (e+1))) - h.toNat),i,a,())).bind fun y26=>if y26.1 then if decide (0<=h)then if decide (h<(j.length:Int))then g20 (wrap .i64 (h - 1),i,splice d y26.2.1 (0+h.toNat),f,b,j.set (0+h.toNat) (wrap .u32 (wrap .u64 (a - 1))),l,())else none else none else if decide (0<=h)then if decide (h<(j.length:Int))then g20 (wrap .i64 (h - 1),i,splice d y26.2.1 (0+h.toNat),f,b,j.set (0+h.toNat) (wrap .u32 a),l,())else none else none else none else none else none else none else none else none) x22.1 x22.2.1 x22.2.2.1 x22.2.2.2.2.1 x22.2.2.2.2.2.1 x22.2.2.2.2.2.2.1 x22.2.2.2.2.2.2.2.2.2.1 x22.2.2.2.1 x22.2.2.2.2.2.2.2.1 x22.2.2.2.2.2.2.2.2.1
abbrev P.i_nat_div_b27 (x28:Int×Int×List Int×Int×List Int×Unit) (g29:Int×Int×List Int×Int×List Int×Unit->i_nat_div.C):i_nat_div.C:=
 (fun(a b d:Int) (c e:List Int)=>if decide (a<b)then if decide ((wrap .i64 (a+1))<(c.length:Int))then if decide (0<=(wrap .i64 (a+1)))then if decide ((wrap .i64 (a+1))<(c.length:Int))then if decide (0<=a)then if decide (a<(c.length:Int))then if decide (d<0)then none else if decide (0<=a)then if decide (a<(c.length:Int))then g29 (wrap .i64 (a+1),b,c.set (0+a.toNat) (wrap .u32 (Int.fdiv (wrap .u64 ((wrap .u64 ((wrap .u64 (c.getD (0+(Int.toNat (wrap .i64 (a+1)))) 0))*4294967296))+(wrap .u64 (c.getD (0+a.toNat) 0)))) ((2:Int)^(Min.min d.toNat 64)))),d,e,())else none else none else none else none else none else none else if decide (0<=a)then if decide (a<(c.length:Int))then if decide (d<0)then none else if decide (0<=a)then if decide (a<(c.length:Int))then g29 (wrap .i64 (a+1),b,c.set (0+a.toNat) (wrap .u32 (Int.fdiv (wrap .u64 (0+(wrap .u64 (c.getD (0+a.toNat) 0)))) ((2:Int)^(Min.min d.toNat 64)))),d,e,())else none else none else none else none else if decide (e.length<=1000000000000)then if decide (c.length<=1000000000000)then some ((List.take (List.length (List.dropWhile (fun(y30:Int)=>y30==0) (List.reverseAux e []))) e,List.take (List.length (List.dropWhile (fun(y31:Int)=>y31==0) (List.reverseAux c []))) c),())else none else none) x28.1 x28.2.1 x28.2.2.2.1 x28.2.2.1 x28.2.2.2.2.1
abbrev P.i_nat_div_b18 (k:Nat) (x19:i_nat_div.B) (g20:i_nat_div.B->i_nat_div.C):i_nat_div.C:=
 (fun(a d e h:Int) (b c f:List Int)=>if decide (a>=0)then if decide (0<=(wrap .i64 (a+(b.length:Int))))then if decide ((wrap .i64 (a+(b.length:Int)))<(c.length:Int))then if decide (0<=(wrap .i64 ((wrap .i64 (a+(b.length:Int))) - 1)))then if decide ((wrap .i64 ((wrap .i64 (a+(b.length:Int))) - 1))<(c.length:Int))then if decide (d=0)then none else if decide (d=0)then none else loopP (P.i_nat_div_b21 g20) k (wrap .u64 (Int.tdiv (wrap .u64 ((wrap .u64 ((wrap .u64 (c.getD (0+(Int.toNat (wrap .i64 (a+(b.length:Int))))) 0))*4294967296))+(wrap .u64 (c.getD (0+(Int.toNat (wrap .i64 ((wrap .i64 (a+(b.length:Int))) - 1)))) 0)))) d),e,Int.tmod (wrap .u64 ((wrap .u64 ((wrap .u64 (c.getD (0+(Int.toNat (wrap .i64 (a+(b.length:Int))))) 0))*4294967296))+(wrap .u64 (c.getD (0+(Int.toNat (wrap .i64 ((wrap .i64 (a+(b.length:Int))) - 1)))) 0)))) d,c,wrap .i64 (a+(b.length:Int)),d,a,b,f,h,())else none else none else none else none else if decide (c.length<=1000000000000)then loopP P.i_nat_div_b27 k (0,(List.length (List.take (List.length (List.dropWhile (fun(y32:Int)=>y32==0) (List.reverseAux c []))) c):Int),List.take (List.length (List.dropWhile (fun(y33:Int)=>y33==0) (List.reverseAux c []))) c,h,f,())else none) x19.1 x19.2.2.2.1 x19.2.2.2.2.1 x19.2.2.2.2.2.2.1 x19.2.1 x19.2.2.1 x19.2.2.2.2.2.1
def P.i_nat_div (k:Nat) (x:List Int×List Int×Unit):i_nat_div.C:=
 (S.i_nat_cmp (x.1,x.2.1,())).bind fun y0=>if decide (y0.1<0)then some (([],x.1),())else if(x.2.1.length:Int)==1 then if decide (0<(x.2.1.length:Int))then(S.i_nat_divSmall (x.1,x.2.1.getD 0 0,())).bind fun y1=>if decide ((List.length [y1.1.2])<=1000000000000)then some ((y1.1.1,List.take (List.length (List.filter.match_1 (fun(y2:Bool)=>List Int) (y1.1.2==0) (fun(y3:Unit)=>[]) (fun(y4:Unit)=>[y1.1.2]))) [y1.1.2]),())else none else none else if decide (0<=(wrap .i64 ((x.2.1.length:Int) - 1)))then if decide ((wrap .i64 ((x.2.1.length:Int) - 1))<(x.2.1.length:Int))then(S.math_bits_LeadingZeros32 (x.2.1.getD (Int.toNat (wrap .i64 ((x.2.1.length:Int) - 1))) 0,())).bind fun y5=>(S.i_nat_shifted (x.1,y5.1,())).bind fun y6=>(S.i_nat_shifted (x.2.1,y5.1,())).bind fun y7=>if decide (y7.1.length<=1000000000000)then if decide (0<=(wrap .i64 ((List.length (List.take (List.length (List.dropWhile (fun(y8:Int)=>y8==0) (List.reverseAux y7.1 []))) y7.1):Int) - 1)))then if decide ((wrap .i64 ((List.length (List.take (List.length (List.dropWhile (fun(y9:Int)=>y9==0) (List.reverseAux y7.1 []))) y7.1):Int) - 1))<(List.length (List.take (List.length (List.dropWhile (fun(y10:Int)=>y10==0) (List.reverseAux y7.1 []))) y7.1):Int))then if decide (0<=(wrap .i64 ((List.length (List.take (List.length (List.dropWhile (fun(y11:Int)=>y11==0) (List.reverseAux y7.1 []))) y7.1):Int) - 2)))then if decide ((wrap .i64 ((List.length (List.take (List.length (List.dropWhile (fun(y12:Int)=>y12==0) (List.reverseAux y7.1 []))) y7.1):Int) - 2))<(List.length (List.take (List.length (List.dropWhile (fun(y13:Int)=>y13==0) (List.reverseAux y7.1 []))) y7.1):Int))then if decide (0<=(wrap .i64 ((y6.1.length:Int) - (List.length (List.take (List.length (List.dropWhile (fun(y14:Int)=>y14==0) (List.reverseAux y7.1 []))) y7.1):Int))))then if decide ((wrap .i64 ((y6.1.length:Int) - (List.length (List.take (List.length (List.dropWhile (fun(y15:Int)=>y15==0) (List.reverseAux y7.1 []))) y7.1):Int)))<=(wrap .i64 ((y6.1.length:Int) - (List.length (List.take (List.length (List.dropWhile (fun(y16:Int)=>y16==0) (List.reverseAux y7.1 []))) y7.1):Int))))then if decide (((wrap .i64 ((y6.1.length:Int) - (List.length (List.take (List.length (List.dropWhile (fun(y17:Int)=>y17==0) (List.reverseAux y7.1 []))) y7.1):Int)))*4)<=281474976710656)then loopP (P.i_nat_div_b18 k) k (wrap .i64 ((List.length (List.replicate (Int.toNat (wrap .i64 ((y6.1.length:Int) - (List.length (List.take (List.length (List.dropWhile (fun(y34:Int)=>y34==0) (List.reverseAux y7.1 []))) y7.1):Int)))) (0:Int)):Int) - 1),List.take (List.length (List.dropWhile (fun(y35:Int)=>y35==0) (List.reverseAux y7.1 []))) y7.1,y6.1,wrap .u64 (List.getD (List.take (List.length (List.dropWhile (fun(y36:Int)=>y36==0) (List.reverseAux y7.1 []))) y7.1) (0+(Int.toNat (wrap .i64 ((List.length (List.take (List.length (List.dropWhile (fun(y37:Int)=>y37==0) (List.reverseAux y7.1 []))) y7.1):Int) - 1)))) 0),wrap .u64 (List.getD (List.take (List.length (List.dropWhile (fun(y38:Int)=>y38==0) (List.reverseAux y7.1 []))) y7.1) (0+(Int.toNat (wrap .i64 ((List.length (List.take (List.length (List.dropWhile (fun(y39:Int)=>y39==0) (List.reverseAux y7.1 []))) y7.1):Int) - 2)))) 0),List.replicate (Int.toNat (wrap .i64 ((y6.1.length:Int) - (List.length (List.take (List.length (List.dropWhile (fun(y40:Int)=>y40==0) (List.reverseAux y7.1 []))) y7.1):Int)))) 0,y5.1,())else none else none else none else none else none else none else none else none else none else none
theorem id_tail (g:(Int×((List Int)×((List Int)×(Int×(Int×((List Int)×(Int×Unit)))))))->(Option (((List Int)×(List Int))×Unit))) (F:Option (((List Int)×(List Int))×Unit)) {u0 vs:List Int} {m j:Nat} {top next sh:Int}
  (h0:dig B32 u0=true) (hv:dig B32 vs=true) (hN:u0.length=m+vs.length) (hbig:u0.length<=1000000000) (hj:j<m) (hV:0<dval B32 vs)
  (hg:g ((j:Int) - 1,(vs,(ldU B32 (dval B32 vs) u0 j,(top,(next,(ldQ B32 (dval B32 vs) u0 m j,(sh,())))))))=F)
  (q:Nat) (hq:q<4294967296) (h1:ldW B32 (dval B32 vs) u0 j/dval B32 vs<=q) (h2:q*dval B32 vs<ldW B32 (dval B32 vs) u0 j+dval B32 vs) (q':Int) (hq':q'=(q:Int)):
  (if((decide ((0:Int)<=(IntKind.wrap .i64 (((j+vs.length:Nat):Int)+(1:Int)))))=true)then(if((decide (((IntKind.wrap .i64 (((j+vs.length:Nat):Int)+(1:Int)))+(0:Int))<=((List.length (ldU B32 (dval B32 vs) u0 (j+1))):Int)))=true)then(if((decide ((0:Int)<=(j:Int)))=true)then(if((decide ((j:Int)<=(IntKind.wrap .i64 (((j+vs.length:Nat):Int)+(1:Int)))))=true)then(Option.bind (S.i_takeAway ((Go.Cm.seen (ldU B32 (dval B32 vs) u0 (j+1)) ((0:Nat)+(Int.toNat (j:Int))) ((Int.toNat (IntKind.wrap .i64 (((j+vs.length:Nat):Int)+(1:Int)))) - (Int.toNat (j:Int)))),(vs,(q',())))) (fun(y26:(Bool×((List Int)×Unit)))=>(if(y26.1=true)then(if((decide ((0:Int)<=(j:Int)))=true)then(if((decide ((j:Int)<((List.length (ldQ B32 (dval B32 vs) u0 m (j+1))):Int)))=true)then(g ((IntKind.wrap .i64 ((j:Int) - (1:Int))),(vs,((Go.Cm.splice (ldU B32 (dval B32 vs) u0 (j+1)) y26.2.1 ((0:Nat)+(Int.toNat (j:Int)))),(top,(next,((List.set (ldQ B32 (dval B32 vs) u0 m (j+1)) ((0:Nat)+(Int.toNat (j:Int))) (IntKind.wrap .u32 (IntKind.wrap .u64 (q' - (1:Int))))),(sh,()))))))))
 else none)
 else none)
 else(if((decide ((0:Int)<=(j:Int)))=true)then(if((decide ((j:Int)<((List.length (ldQ B32 (dval B32 vs) u0 m (j+1))):Int)))=true)then(g ((IntKind.wrap .i64 ((j:Int) - (1:Int))),(vs,((Go.Cm.splice (ldU B32 (dval B32 vs) u0 (j+1)) y26.2.1 ((0:Nat)+(Int.toNat (j:Int)))),(top,(next,((List.set (ldQ B32 (dval B32 vs) u0 m (j+1)) ((0:Nat)+(Int.toNat (j:Int))) (IntKind.wrap .u32 q')),(sh,()))))))))
 else none)
 else none))))
 else none)
 else none)
 else none)
 else none)=F:=by
 subst hq';have hhi:=dval_lt hv;have hA:(u0.take j).length=j:=by simp;omega
 have hQ:=ld_Q B32_le hV h0 (show j<u0.length by omega) hj;have hQl:(ldQ B32 (dval B32 vs) u0 m (j+1)).length=m:=by unfold ldQ;rw[List.length_append,List.length_replicate,fd_len];omega
 have hUl:=ld_U_lt B32_le hV h0 hN hj hhi;have hs:=ld_step B32_le hV h0 (show j<u0.length by omega);have hs':=ld_U B32_le hV h0 (show j<u0.length by omega);have hvl:vs.length<=vs.length+1:=by omega
 have hve:∀X,X<B32^(vs.length+1)->fd B32 (u0.length - j) X=fd B32 (vs.length+1) X++List.replicate (m - 1 - j) 0:=by
  intro X hX;rw[show u0.length - j=(vs.length+1)+(m - 1 - j) by omega,fd_pad hX]
 have hVl:dval B32 vs<B32^(vs.length+1):=Nat.lt_of_lt_of_le hhi (Nat.pow_le_pow_right (by decide) hvl);generalize hn:vs.length=n at*;generalize hVV:dval B32 vs=V at*;generalize hUU:ldW B32 V u0 j=U at*;have hdm:=Nat.mod_add_div U V;have hml:=Nat.mod_lt U hV;obtain⟨n1,n2⟩:=near hV h1 h2;generalize U/V=Q at*;generalize U%V=M at*;have hM:=hve M (by omega);have hU':=hve U hUl;rw[hM]at hs';rw[hU']at hs;generalize hR:List.replicate (m - 1 - j) (0:Int)=R at*;have hRl:R.length=m - 1 - j:=by rw[<-hR,List.length_replicate]
 have e1:(0:Int)<=(j:Int):=by omega
 have e2:(j:Int)<(m:Int):=by omega
 have e3:(0:Int)<=((j+n:Nat):Int)+1:=by omega
 have e4:(j:Int)<=((j+n:Nat):Int)+1:=by omega
 have hlen:(ldU B32 V u0 (j+1)).length=j+n+1+R.length:=by
  rw[hs,List.length_append,List.length_append,hA,fd_len];omega
 have e5:((j+n:Nat):Int)+1+0<=((j+n+1+R.length:Nat):Int):=by omega
 rw[wr (x:=((j+n:Nat):Int)+1) (by omega) (by omega),hlen,hQl];simp only[e1,e2,e3,e4,e5,decide_true,if_true,Nat.zero_add,Int.toNat_natCast];have hseen:seen (ldU B32 V u0 (j+1)) j ((((j+n:Nat):Int)+1).toNat - j)=fd B32 (n+1) U:=by
  unfold seen;rw[hs,List.drop_left' hA,show(((j+n:Nat):Int)+1).toNat - j=n+1 by omega];exact List.take_left' (fd_len _ _ _)
 have hspl:∀X,splice (ldU B32 V u0 (j+1)) (fd B32 (n+1) X) j=u0.take j++(fd B32 (n+1) X++R):=by
  intro X;unfold splice;rw[hs,List.take_left' hA,fd_len,<-List.drop_drop,List.drop_left' hA,List.drop_left' (fd_len _ _ _),List.append_assoc]
 rw[hseen];have hd:dval B32 (fd B32 (n+1) U)=U:=by rw[dval_fd,Nat.mod_eq_of_lt hUl]
 unfold S.i_takeAway;dsimp only;rw[fd_len,hd,hVV,hn,Int.toNat_natCast,if_pos ⟨dig_fd (by decide) _ _,hv,by omega,by omega,by omega,by omega,by rw[Nat.mul_comm];omega⟩];rw[Nat.mul_comm q V]at n1 n2
 by_cases hle:V*q<=U
 ·have hqe:=n1 hle;have hsub:U - V*q=M:=by rw[hqe];omega
  rw[if_pos hle,Option.bind_some,hsub];dsimp only;rw[if_neg (by simp),hspl,<-hs',w32 (by omega) (by omega),hqe,hQ,wr (by omega) (by omega)];exact hg
 ·have hqe:=n2 (by omega);have hsub:U+V - V*q=M:=by rw[hqe,Nat.mul_add];omega
  rw[if_neg hle,Option.bind_some,hsub];dsimp only;rw[if_pos rfl,hspl,<-hs',wu (x:=(q:Int) - 1) (by omega) (by omega),w32 (by omega) (by omega),hqe,show((Q+1:Nat):Int) - 1=((Q:Nat):Int) by omega,hQ,wr (by omega) (by omega)];exact hg
theorem id_inner (g:(Int×((List Int)×((List Int)×(Int×(Int×((List Int)×(Int×Unit)))))))->(Option (((List Int)×(List Int))×Unit))) (F:Option (((List Int)×(List Int))×Unit)) {u0 vs:List Int} {m j:Nat} {sh:Int}
  (h0:dig B32 u0=true) (hv:dig B32 vs=true) (hN:u0.length=m+vs.length) (hbig:u0.length<=1000000000) (hj:j<m) (hn2:2<=vs.length) (hlo:B32^(vs.length - 1)<=dval B32 vs)
  (hg:g ((j:Int) - 1,(vs,(ldU B32 (dval B32 vs) u0 j,(((dval B32 vs/B32^(vs.length - 1):Nat):Int),(((dval B32 vs/B32^(vs.length - 2)%B32:Nat):Int),(ldQ B32 (dval B32 vs) u0 m j,(sh,())))))))=F) (w:Nat):
  ∀q r k:Nat,q*(dval B32 vs/B32^(vs.length - 1))+r=ldW B32 (dval B32 vs) u0 j/B32^(vs.length - 1)->ldW B32 (dval B32 vs) u0 j/dval B32 vs<=q->r<4294967296->4294967296 - r<=w->w<k->q<=18446744073709551615->
  loopP (P.i_nat_div_b21 g) k ((q:Int),(((dval B32 vs/B32^(vs.length - 2)%B32:Nat):Int),((r:Int),(ldU B32 (dval B32 vs) u0 (j+1),(((j+vs.length:Nat):Int),(((dval B32 vs/B32^(vs.length - 1):Nat):Int),((j:Int),(vs,(ldQ B32 (dval B32 vs) u0 m (j+1),(sh,()))))))))))=F:=by
 have hV:0<dval B32 vs:=Nat.lt_of_lt_of_le (Nat.pow_pos (by decide)) hlo;have hhi:=dval_lt hv;have hU:=ld_lt B32_le hV h0 (show j<u0.length by omega);have win:=ld_win B32_le hn2 hlo hhi hU;have htail:=fun q hq h1 h2 q' hq'=>id_tail g F h0 hv hN hbig hj hV hg q hq h1 h2 q' hq'
 have g3:=ld_get B32_le hV h0 hN hj hhi (i:=vs.length - 2) (by omega);have hsl:(ldU B32 (dval B32 vs) u0 (j+1)).length=m+vs.length:=by unfold ldU;rw[List.length_append,fd_len,List.length_take];omega
 have hv1B:dval B32 vs/B32^(vs.length - 1)<4294967296:=by
  have:dval B32 vs/B32^(vs.length - 1)<B32:=by
   rw[Nat.div_lt_iff_lt_mul (Nat.pow_pos (by decide)),Nat.mul_comm,<-Nat.pow_succ,show(vs.length - 1).succ=vs.length by omega];exact hhi
  exact this
 have hv1:=win.hv1;generalize hX:ldW B32 (dval B32 vs) u0 j/B32^(vs.length - 1)=X at*;generalize hv1e:dval B32 vs/B32^(vs.length - 1)=v1 at*;have hv2B:dval B32 vs/B32^(vs.length - 2)%B32<4294967296:=win.hv2;have hu2B:ldW B32 (dval B32 vs) u0 j/B32^(vs.length - 2)%B32<4294967296:=win.hu2;generalize hv2e:dval B32 vs/B32^(vs.length - 2)%B32=v2 at*;generalize hu2e:ldW B32 (dval B32 vs) u0 j/B32^(vs.length - 2)%B32=u2 at*
 induction w with
 |zero=>intro q r k _ _ hr hw;omega
 |succ w ih=>
  intro q r k e hq hr hw hk hqb;obtain⟨k,rfl⟩:∃k',k=k'+1:=⟨k - 1,by omega⟩
  rw[loopP_succ];unfold P.i_nat_div_b21;dsimp only;have c5:(0:Int)<=((j+vs.length:Nat):Int) - 2:=by omega
  have c6:((j+vs.length:Nat):Int) - 2<((m+vs.length:Nat):Int):=by omega
  have hwl:((m+vs.length:Nat):Int)=((List.length (ldU B32 (dval B32 vs) u0 (j+1)):Nat):Int):=by rw[hsl]
  rw[hwl]at c6;have hstep:ldW B32 (dval B32 vs) u0 j/dval B32 vs<q->((r:Int)+(v1:Int)>=4294967296->(q - 1)<4294967296/\ldW B32 (dval B32 vs) u0 j/dval B32 vs<=q - 1/\(q - 1)*dval B32 vs<ldW B32 (dval B32 vs) u0 j+dval B32 vs/\IntKind.wrap .u64 ((q:Int) - 1)=((q - 1:Nat):Int))/\(¬((r:Int)+(v1:Int)>=4294967296)->loopP (P.i_nat_div_b21 g) k (IntKind.wrap .u64 ((q:Int) - 1),((v2:Int),((r:Int)+(v1:Int),(ldU B32 (dval B32 vs) u0 (j+1),(((j+vs.length:Nat):Int),((v1:Int),((j:Int),(vs,(ldQ B32 (dval B32 vs) u0 m (j+1),(sh,()))))))))))=F):=by
   intro hlt;have hq1:1<=q:=Nat.lt_of_le_of_lt (Nat.zero_le _) hlt;have eq1:IntKind.wrap .u64 ((q:Int) - 1)=((q - 1:Nat):Int):=by
    rw[wu (by omega) (by omega)];omega
   have e':(q - 1)*v1+(r+v1)=X:=by
    obtain⟨p,rfl⟩:∃p,q=p+1:=⟨q - 1,by omega⟩
    rw[Nat.add_mul,Nat.one_mul]at e;rw[Nat.add_sub_cancel];omega
   constructor
   ·intro hge;have hd:=win.done e' (.inr (show(4294967296:Nat)<=r+v1 by omega));exact⟨hd.1,by omega,hd.2,eq1⟩
   ·intro hge;rw[eq1,<-Int.natCast_add];exact ih (q - 1) (r+v1) k e' (by omega) (by omega) (by omega) (by omega) (by omega)
  rw[wu (x:=(r:Int)+(v1:Int)) (by omega) (by omega)]
  by_cases b1:q>=4294967296
  ·rw[if_pos (decide_eq_true (show(q:Int)>=4294967296 by omega))];obtain⟨s1,s2⟩:=hstep (win.down e hq (.inl b1))
   by_cases b2:(r:Int)+(v1:Int)>=4294967296
   ·rw[if_pos (decide_eq_true b2)];obtain⟨t1,t2,t3,t4⟩:=s1 b2;exact htail (q - 1) t1 t2 t3 _ t4
   ·rw[if_neg (by simpa using b2)];exact s2 b2
  ·rw[if_neg (by simp;omega)];rw[wr (x:=((j+vs.length:Nat):Int) - 2) (by omega) (by omega),if_pos (decide_eq_true c5),if_pos (decide_eq_true c6),show 0+(((j+vs.length:Nat):Int) - 2).toNat=j+(vs.length - 2) by omega,g3];have hqv:q*v2<=4294967295*4294967295:=Nat.mul_le_mul (by omega) (by omega);rw[<-Int.natCast_mul,wu (x:=((q*v2:Nat):Int)) (by omega) (by omega),wu (x:=(r:Int)*4294967296) (by omega) (by omega),wu (x:=(u2:Int)) (by omega) (by omega),wu (x:=(r:Int)*4294967296+(u2:Int)) (by omega) (by omega)]
   by_cases b3:q*v2>r*4294967296+u2
   ·rw[if_pos (decide_eq_true (show((q*v2:Nat):Int)>(r:Int)*4294967296+(u2:Int) by omega))];obtain⟨s1,s2⟩:=hstep (win.down e hq (.inr b3))
    by_cases b2:(r:Int)+(v1:Int)>=4294967296
    ·rw[if_pos (decide_eq_true b2)];obtain⟨t1,t2,t3,t4⟩:=s1 b2;exact htail (q - 1) t1 t2 t3 _ t4
    ·rw[if_neg (by simpa using b2)];exact s2 b2
   ·rw[if_neg (by simp;omega)];have hd:=win.done e (.inl ⟨show q<B32 by show q<4294967296;omega,show q*v2<=r*B32+u2 by show q*v2<=r*4294967296+u2;omega⟩);exact htail q hd.1 hq hd.2 _ rfl
theorem id_down {R sh:Nat} {qs:List Int} {n:Nat} (hn:(nd B32 R).length=n) (hsh:sh<=31) (hb:n<=1000000000) (hq:dig B32 qs=true) (hql:qs.length<=1000000000) (k:Nat) (hk:n<k):
  loopP P.i_nat_div_b27 k ((0:Int),((n:Int),(nd B32 R,((sh:Int),(qs,())))))=some ((nd B32 (dval B32 qs),nd B32 (R/2^sh)),()):=by
 have hRn:R<B32^n:=(nd_len B32_le R n).1 (by omega);have hpow:0<2^sh:=Nat.pow_pos (by decide);have hndfd:nd B32 R=fd B32 n R:=by
  have:=fd_dval (B:=B32) (by decide) (dig_nd B32_le R);rw[hn,dval_nd B32_le]at this;exact this.symm
 have key:=loop_up0 (k:=k) (b:=P.i_nat_div_b27) (n:=n) (st:=fun i=>((i:Int),(n:Int),fd B32 i (R/2^sh)++fd B32 (n - i) (R/B32^i),(sh:Int),qs,())) (F:=fun i=>some ((nd B32 (dval B32 qs),nd B32 (R/2^sh)),())) (fun i g hi hg=>by
  unfold P.i_nat_div_b27;dsimp only at hg ⊢;refine Eq.trans ?_ hg;clear hg;have hlen:(fd B32 i (R/2^sh)++fd B32 (n - i) (R/B32^i)).length=n:=by rw[List.length_append,fd_len,fd_len];omega
  have hfl:(fd B32 i (R/2^sh)).length=i:=fd_len _ _ _;have e1:(i:Int)<(n:Int):=by omega
  have e2:(0:Int)<=(i:Int):=by omega
  have e3:¬((sh:Int)<0):=by omega
  have e4:(0:Int)<=(i:Int)+1:=by omega
  have emin:Min.min sh 64=sh:=by omega
  have ep:((2:Int)^sh)=((2^sh:Nat):Int):=by rw[Int.natCast_pow];rfl
  rw[hlen,wr (x:=(i:Int)+1) (by omega) (by omega)];simp only[e1,e2,e3,e4,decide_true,decide_false,if_true,if_false,Bool.false_eq_true,Nat.zero_add,Int.toNat_natCast];rw[emin,ep];have hsplit:fd B32 (n - i) (R/B32^i)=((R/B32^i%B32:Nat):Int)::fd B32 (n - (i+1)) (R/B32^(i+1)):=by
   rw[show n - i=(n - (i+1))+1 by omega,fd,Nat.div_div_eq_div_mul,Nat.pow_succ]
  rw[hsplit];simp only[mid_set hfl,mid_get hfl];have hx:R/B32^i%B32<4294967296:=Nat.mod_lt _ (by decide);have hy:R/B32^(i+1)%B32<4294967296:=Nat.mod_lt _ (by decide);have hval:∀Y:Nat,Y=R/B32^(i+1)%B32->IntKind.wrap .u32 (Int.fdiv (((Y*4294967296+R/B32^i%B32:Nat):Int)) ((2^sh:Nat):Int))=((R/2^sh/B32^i%B32:Nat):Int):=by
   intro Y hY;rw[Int.fdiv_eq_ediv_of_nonneg _ (by omega),<-Int.natCast_ediv,u32_emod];have e5:∀z:Nat,((z:Nat):Int)%4294967296=((z%B32:Nat):Int):=by
    intro z;show _=((z%4294967296:Nat):Int)
    omega
   rw[e5];congr 1;have e6:Y*4294967296+R/B32^i%B32=R/B32^i%(B32*B32):=by
    rw[hY,Nat.mod_mul,Nat.div_div_eq_div_mul,<-Nat.pow_succ,Nat.add_comm,Nat.mul_comm]
   have e7:R/2^sh/B32^i=R/B32^i/2^sh:=by rw[Nat.div_div_eq_div_mul,Nat.div_div_eq_div_mul,Nat.mul_comm]
   have e8:B32*B32=2^sh*(B32*2^(32 - sh)):=by
    have:B32=2^sh*2^(32 - sh):=by rw[<-Nat.pow_add,show sh+(32 - sh)=32 by omega]
    calc B32*B32=2^sh*2^(32 - sh)*B32:=by rw[<-this]
     _=2^sh*(B32*2^(32 - sh)):=by ac_rfl
   rw[e6,e7,e8,Nat.mod_mul_right_div_self,Nat.mod_mul_right_mod]
  by_cases hj:(i:Int)+1<(n:Int)
  ·have hj':fd B32 (n - (i+1)) (R/B32^(i+1))=((R/B32^(i+1)%B32:Nat):Int)::fd B32 (n - (i+1) - 1) (R/B32^(i+1)/B32):=by
    conv=>lhs;rw[show n - (i+1)=(n - (i+1) - 1)+1 by omega,fd]
   have hg2:(fd B32 i (R/2^sh)++((R/B32^i%B32:Nat):Int)::fd B32 (n - (i+1)) (R/B32^(i+1))).getD ((i:Int)+1).toNat 0=((R/B32^(i+1)%B32:Nat):Int):=by
    rw[hj',show((i:Int)+1).toNat=i+1 by omega,List.append_cons];exact mid_get (by rw[List.length_append,hfl];rfl)
   rw[if_pos (decide_eq_true hj),if_pos (decide_eq_true hj),hg2];rw[wu (x:=((R/B32^(i+1)%B32:Nat):Int)) (by omega) (by omega),wu (x:=((R/B32^(i+1)%B32:Nat):Int)*4294967296) (by omega) (by omega),wu (x:=((R/B32^i%B32:Nat):Int)) (by omega) (by omega),wu (x:=((R/B32^(i+1)%B32:Nat):Int)*4294967296+((R/B32^i%B32:Nat):Int)) (by omega) (by omega),show((R/B32^(i+1)%B32:Nat):Int)*4294967296+((R/B32^i%B32:Nat):Int)=((R/B32^(i+1)%B32*4294967296+R/B32^i%B32:Nat):Int) by omega,hval _ rfl,<-fd_snoc];rfl
  ·rw[if_neg (by simpa using hj)];have hn1:n=i+1:=by omega
   have h0:0=R/B32^(i+1)%B32:=by rw[<-hn1,Nat.div_eq_of_lt hRn,Nat.zero_mod]
   rw[wu (x:=((R/B32^i%B32:Nat):Int)) (by omega) (by omega),wu (x:=0+((R/B32^i%B32:Nat):Int)) (by omega) (by omega),show 0+((R/B32^i%B32:Nat):Int)=((0*4294967296+R/B32^i%B32:Nat):Int) by omega,hval 0 h0,<-fd_snoc];rfl) (fun g=>by
  unfold P.i_nat_div_b27;dsimp only;have hRs:R/2^sh<B32^n:=Nat.lt_of_le_of_lt (Nat.div_le_self _ _) hRn;have hl1:qs.length<=1000000000000:=by omega
  have hfl:(fd B32 n (R/2^sh)).length=n:=fd_len _ _ _;have hl2:(fd B32 n (R/2^sh)).length<=1000000000000:=by omega
  rw[if_neg (by simp),Nat.sub_self,show fd B32 0 (R/B32^n)=[]from rfl,List.append_nil,if_pos (decide_eq_true hl1),if_pos (decide_eq_true hl2),trim_nd B32_le _ _ rfl hq,trim_nd B32_le _ _ rfl (dig_fd (by decide) _ _),nd_fd B32_le hRs]) hk
 rw[show fd B32 0 (R/2^sh)++fd B32 (n - 0) (R/B32^0)=nd B32 R by rw[hndfd,Nat.pow_zero,Nat.div_one];rfl]at key;exact key
theorem id_outer {u0 vs:List Int} {m sh:Nat}
  (h0:dig B32 u0=true) (hv:dig B32 vs=true) (hN:u0.length=m+vs.length) (hbig:u0.length<=1000000000) (hn2:2<=vs.length) (hlo:B32^(vs.length - 1)<=dval B32 vs) (hsh:sh<=31) (ht:dval B32 (u0.drop m)<dval B32 vs) (k:Nat) (hk:k=u0.length+4294967310):
  loopP (P.i_nat_div_b18 k) k ((m:Int) - 1,(vs,(u0,(((dval B32 vs/B32^(vs.length - 1):Nat):Int),(((dval B32 vs/B32^(vs.length - 2)%B32:Nat):Int),(List.replicate m 0,((sh:Int),())))))))=some ((nd B32 (dval B32 u0/dval B32 vs),nd B32 (dval B32 u0%dval B32 vs/2^sh)),()):=by
 have hV:0<dval B32 vs:=Nat.lt_of_lt_of_le (Nat.pow_pos (by decide)) hlo;have hhi:=dval_lt hv;obtain⟨f1,f2⟩:=ld_first B32_le hV h0 (show m<=u0.length by omega) ht;have key:=loop_up0 (k:=k) (b:=P.i_nat_div_b18 k) (n:=m) (st:=fun i=>((m:Int) - 1 - (i:Int),vs,ldU B32 (dval B32 vs) u0 (m - i),((dval B32 vs/B32^(vs.length - 1):Nat):Int),((dval B32 vs/B32^(vs.length - 2)%B32:Nat):Int),ldQ B32 (dval B32 vs) u0 m (m - i),(sh:Int),())) (F:=fun i=>some ((nd B32 (dval B32 u0/dval B32 vs),nd B32 (dval B32 u0%dval B32 vs/2^sh)),())) (fun i g hi hg=>by
  unfold P.i_nat_div_b18;dsimp only at hg ⊢;obtain⟨j,hj⟩:∃j,m - i=j+1:=⟨m - i - 1,by omega⟩
  have hjm:j<m:=by omega
  rw[show m - (i+1)=j by omega,show(m:Int) - 1 - ((i+1:Nat):Int)=(j:Int) - 1 by omega]at hg;rw[hj,show(m:Int) - 1 - (i:Int)=(j:Int) by omega];have hU:=ld_lt B32_le hV h0 (show j<u0.length by omega);have win:=ld_win B32_le hn2 hlo hhi hU;have g3:=ld_get B32_le hV h0 hN hjm hhi (i:=vs.length) (by omega);have g4:=ld_get B32_le hV h0 hN hjm hhi (i:=vs.length - 1) (by omega);have hsl:(ldU B32 (dval B32 vs) u0 (j+1)).length=m+vs.length:=by unfold ldU;rw[List.length_append,fd_len,List.length_take];omega
  have hv1B:dval B32 vs/B32^(vs.length - 1)<4294967296:=by
   have:dval B32 vs/B32^(vs.length - 1)<B32:=by
    rw[Nat.div_lt_iff_lt_mul (Nat.pow_pos (by decide)),Nat.mul_comm,<-Nat.pow_succ,show(vs.length - 1).succ=vs.length by omega];exact hhi
   exact this
  have hv1:=win.hv1;have hxlt:=win.xlt;have hstart:=win.start;have hUl:=ld_U_lt B32_le hV h0 hN hjm hhi;have hinner:=id_inner g _ h0 hv hN hbig hjm hn2 hlo hg 4294967296;have hXe:ldW B32 (dval B32 vs) u0 j/B32^vs.length%B32*4294967296+ldW B32 (dval B32 vs) u0 j/B32^(vs.length - 1)%B32=ldW B32 (dval B32 vs) u0 j/B32^(vs.length - 1):=by
   have hq:ldW B32 (dval B32 vs) u0 j/B32^vs.length<B32:=by
    rw[Nat.div_lt_iff_lt_mul (Nat.pow_pos (by decide)),Nat.mul_comm,<-Nat.pow_succ];exact hUl
   rw[Nat.mod_eq_of_lt hq];have e:B32^vs.length=B32^(vs.length - 1)*B32:=by rw[<-Nat.pow_succ];congr 1;omega
   rw[e,<-Nat.div_div_eq_div_mul,Nat.mul_comm];exact Nat.div_add_mod _ _
  have hu1:ldW B32 (dval B32 vs) u0 j/B32^vs.length%B32<4294967296:=Nat.mod_lt _ (by decide);have hu0:ldW B32 (dval B32 vs) u0 j/B32^(vs.length - 1)%B32<4294967296:=Nat.mod_lt _ (by decide);generalize hX:ldW B32 (dval B32 vs) u0 j/B32^(vs.length - 1)=X at*;generalize hv1e:dval B32 vs/B32^(vs.length - 1)=v1 at*;generalize ldW B32 (dval B32 vs) u0 j/B32^vs.length%B32=ua at*;generalize X%B32=ub at*;have c0:(j:Int)>=0:=by omega
  have c1:(0:Int)<=((j+vs.length:Nat):Int):=by omega
  have c2:((j+vs.length:Nat):Int)<((m+vs.length:Nat):Int):=by omega
  have c3:(0:Int)<=((j+vs.length:Nat):Int) - 1:=by omega
  have c4:((j+vs.length:Nat):Int) - 1<((m+vs.length:Nat):Int):=by omega
  have c7:¬((v1:Int)=0):=by omega
  rw[hsl,<-Int.natCast_add j,wr (x:=((j+vs.length:Nat):Int)) (by omega) (by omega),wr (x:=((j+vs.length:Nat):Int) - 1) (by omega) (by omega)];simp only[c0,c1,c2,c3,c4,c7,decide_true,decide_false,if_true,if_false,Bool.false_eq_true];rw[show 0+(((j+vs.length:Nat):Int)).toNat=j+vs.length by omega,show 0+(((j+vs.length:Nat):Int) - 1).toNat=j+(vs.length - 1) by omega,g3,g4];rw[wu (x:=(ua:Int)) (by omega) (by omega),wu (x:=(ub:Int)) (by omega) (by omega),wu (x:=(ua:Int)*4294967296) (by omega) (by omega),wu (x:=(ua:Int)*4294967296+(ub:Int)) (by omega) (by omega),show(ua:Int)*4294967296+(ub:Int)=(X:Int) by omega,Int.tdiv_eq_ediv_of_nonneg (by omega),Int.tmod_eq_emod_of_nonneg (by omega),<-Int.natCast_ediv,<-Int.natCast_emod];have hX18:X<=18446744073709551615:=by omega
  have hXd:X/v1<=X:=Nat.div_le_self _ _;have hml:=Nat.mod_lt X hv1;have hdm:X/v1*v1+X%v1=X:=by rw[Nat.mul_comm];exact Nat.div_add_mod _ _
  generalize X/v1=qq at*;generalize X%v1=rr at*;rw[wu (x:=(qq:Int)) (by omega) (by omega)];exact hinner qq rr k hdm hstart (by omega) (by omega) (by omega) (by omega)) (fun g=>by
  unfold P.i_nat_div_b18;dsimp only;rw[if_neg (by simp;omega),Nat.sub_self];have hVN:dval B32 vs<=B32^u0.length:=Nat.le_trans (Nat.le_of_lt hhi) (Nat.pow_le_pow_right (by decide) (by omega));obtain⟨l1,l2,l3,l4,l5,l6⟩:=ld_last B32_le hV h0 (show m<=u0.length by omega) ht hVN;have hul:(nd B32 (dval B32 u0%dval B32 vs)).length<=u0.length:=by
   rw[nd_len B32_le,<-l1,<-l5];exact dval_lt l3
  have hl1:(ldU B32 (dval B32 vs) u0 0).length<=1000000000000:=by omega
  rw[if_pos (decide_eq_true hl1),trim_nd B32_le _ _ rfl l3,l1,id_down rfl hsh (by omega) l4 (by omega) k (by omega),l2]) (by omega)
 rw[Nat.sub_zero,f1,f2]at key;rw[<-key,show(m:Int) - 1 - ((0:Nat):Int)=(m:Int) - 1 by omega]
def S.i_nat_div (x:((List Int)×((List Int)×Unit))):(Option (((List Int)×(List Int))×Unit)):=if canon B32 x.1=true/\canon B32 x.2.1=true/\x.2.1≠ []/\x.1.length<=100000000/\x.2.1.length<=100000000 then some ((nd B32 (dval B32 x.1/dval B32 x.2.1),nd B32 (dval B32 x.1%dval B32 x.2.1)),())else none
theorem S.i_nat_div_ok (x r) (h:S.i_nat_div x=some r):∃k,P.i_nat_div k x=some r:=by
 obtain⟨as,bs,u⟩:=x;unfold S.i_nat_div at h;dsimp only at h;split at h
 case isFalse=>cases h
 rename_i hc;obtain⟨ca,cb,hne,la,lb⟩:=hc;cases h;have da:=canon_dig ca;have db:=canon_dig cb;have hbpos:0<bs.length:=List.length_pos_iff.2 hne;have hb0:dval B32 bs≠0:=by
  intro q;have:=canon_eq cb;rw[q,nd_zero B32_le]at this;exact hne this.symm
 have hlow:=nd_low B32_le hb0;rw[canon_eq cb]at hlow;have hhib:=dval_lt db;have hhia:=dval_lt da;have sc:S.i_nat_cmp (as,(bs,()))=some (cmpN (dval B32 as) (dval B32 bs),()):=by
  unfold S.i_nat_cmp;exact if_pos ⟨ca,cb,by dsimp only;omega⟩
 refine⟨(as.length+1)+4294967310,?_⟩;unfold P.i_nat_div;dsimp only;rw[sc,Option.bind_some];dsimp only
 by_cases hlt:dval B32 as<dval B32 bs
 ·rw[if_pos (decide_eq_true (cmpN_lt.2 hlt)),Nat.div_eq_of_lt hlt,Nat.mod_eq_of_lt hlt,nd_zero B32_le,canon_eq ca]
 ·rw[if_neg (by simpa [cmpN_lt]using hlt)]
  by_cases h1:bs.length=1
  ·obtain⟨b0,rfl⟩:∃b0,bs=[b0]:=by
    match bs,h1 with
    | [b0],_=>exact⟨b0,rfl⟩
   rw[if_pos (by rfl),if_pos (by rfl)];have hb:dval B32 [b0]=b0.toNat:=by simp [dval]
   have hbd:=(dig_cons _ _).1 db;have hbd1:b0<4294967296:=hbd.1.2;rw[hb]at hb0 ⊢;show Option.bind (S.i_nat_divSmall (as,(b0,()))) _=_;unfold S.i_nat_divSmall;dsimp only;have hm:=Nat.mod_lt (dval B32 as) (show 0<b0.toNat by omega);rw[if_pos ⟨da,by omega,by omega,by omega⟩,Option.bind_some];dsimp only;generalize dval B32 as%b0.toNat=M at*;have hone:dig B32 [(M:Int)]=true:=by
    rw[dig_cons];refine⟨⟨by omega,?_⟩,rfl⟩;show(M:Int)<4294967296;omega
   have ht:=trim_nd B32_le 1 [(M:Int)] rfl hone;rw[show dval B32 [(M:Int)]=M by simp [dval]]at ht;rw[if_pos (by rfl),<-ht];rfl
  ·rw[if_neg (by simp;omega)];have hn2:2<=bs.length:=by omega
   have c1:(0:Int)<=(bs.length:Int) - 1:=by omega
   have c2:(bs.length:Int) - 1<(bs.length:Int):=by omega
   have hbtB:dval B32 bs/B32^(bs.length - 1)<4294967296:=by
    have:dval B32 bs/B32^(bs.length - 1)<B32:=by
     rw[Nat.div_lt_iff_lt_mul (Nat.pow_pos (by decide)),Nat.mul_comm,<-Nat.pow_succ,show(bs.length - 1).succ=bs.length by omega];exact hhib
    exact this
   have hbt0:0<dval B32 bs/B32^(bs.length - 1):=Nat.div_pos hlow (Nat.pow_pos (by decide));have g1:=dig_low B32_le db (i:=bs.length - 1) (by omega);rw[show dval B32 bs/B32^(bs.length - 1)%B32=dval B32 bs/B32^(bs.length - 1)from Nat.mod_eq_of_lt hbtB]at g1;have hbt1:dval B32 bs<(dval B32 bs/B32^(bs.length - 1)+1)*B32^(bs.length - 1):=by
    have:=Nat.lt_div_mul_add (show 0<B32^(bs.length - 1)from Nat.pow_pos (by decide)) (a:=dval B32 bs);rw[Nat.add_mul,Nat.one_mul];exact this
   generalize hbt:dval B32 bs/B32^(bs.length - 1)=bt at*;rw[wr (x:=(bs.length:Int) - 1) (by omega) (by omega),if_pos (decide_eq_true c1),if_pos (decide_eq_true c2),show((bs.length:Int) - 1).toNat=bs.length - 1 by omega,g1];unfold S.math_bits_LeadingZeros32;dsimp only;rw[if_pos ⟨by omega,by omega⟩,Option.bind_some,Int.toNat_natCast];dsimp only;obtain⟨b1,b2,b3⟩:=Go.Lib.bitLenAux_bounds 64 bt (by omega) (by omega);have hL32:Go.Lib.bitLen bt<=32:=Go.Lib.bitLen_le bt 32 (by decide) (by omega);have hL:Go.Lib.bitLen bt=Go.Lib.bitLenAux 64 bt:=rfl;rw[<-hL]at b1 b2 b3;generalize Go.Lib.bitLen bt=L at*;obtain⟨sh,hsh⟩:∃sh:Nat,sh=32 - L:=⟨_,rfl⟩
   have hsh1:sh<=31:=by omega
   have hsI:(32:Int) - (L:Int)=(sh:Int):=by omega
   rw[hsI];have hpow:0<2^sh:=Nat.pow_pos (by decide);have hd2:(bt+1)*2^sh<=B32:=by
    have h3:(bt+1)*2^sh<=2^L*2^sh:=Nat.mul_le_mul_right _ b3;rw[<-Nat.pow_add,show L+sh=32 by omega]at h3;exact h3
   have m1:S.i_nat_shifted (as,((sh:Int),()))=some (fd B32 (as.length+1) (dval B32 as*2^sh),()):=by
    unfold S.i_nat_shifted;exact if_pos ⟨da,by dsimp only;omega,by dsimp only;omega,by dsimp only;omega⟩
   have m2:S.i_nat_shifted (bs,((sh:Int),()))=some (fd B32 (bs.length+1) (dval B32 bs*2^sh),()):=by
    unfold S.i_nat_shifted;exact if_pos ⟨db,by dsimp only;omega,by dsimp only;omega,by dsimp only;omega⟩
   rw[m1,Option.bind_some,m2,Option.bind_some];dsimp only;have hvhi:dval B32 bs*2^sh<B32^bs.length:=by
    have h3:dval B32 bs*2^sh<(bt+1)*B32^(bs.length - 1)*2^sh:=Nat.mul_lt_mul_of_pos_right hbt1 hpow;have h4:(bt+1)*B32^(bs.length - 1)*2^sh=(bt+1)*2^sh*B32^(bs.length - 1):=by ac_rfl
    have h5:(bt+1)*2^sh*B32^(bs.length - 1)<=B32*B32^(bs.length - 1):=Nat.mul_le_mul_right _ hd2;have h6:B32*B32^(bs.length - 1)=B32^bs.length:=by rw[Nat.mul_comm,<-Nat.pow_succ];congr 1;omega
    omega
   have hvlo:B32^(bs.length - 1)<=dval B32 bs*2^sh:=Nat.le_trans hlow (Nat.le_mul_of_pos_right _ hpow);have hvl:(nd B32 (dval B32 bs*2^sh)).length=bs.length:=by
    have h3:=(nd_len B32_le (dval B32 bs*2^sh) bs.length).2 hvhi;have h4:=nd_len B32_le (dval B32 bs*2^sh) (bs.length - 1);have h5:¬(nd B32 (dval B32 bs*2^sh)).length<=bs.length - 1:=by
     rw[h4];omega
    omega
   have hahi:dval B32 as*2^sh<B32^(as.length+1):=by
    have h3:2^sh<=B32:=Nat.le_trans (Nat.pow_le_pow_right (by decide) hsh1) (by decide);rw[Nat.pow_succ];exact Nat.lt_of_lt_of_le (Nat.mul_lt_mul_of_pos_right hhia hpow) (Nat.mul_le_mul_left _ h3)
   have hab:bs.length<=as.length:=by
    rcases Nat.lt_or_ge as.length bs.length with g|g
    ·have:=canon_small B32_le ca cb g;omega
    ·exact g
   have htr:List.take (List.length (List.dropWhile (fun y:Int=>(y==(0:Int))) (List.reverseAux (fd B32 (bs.length+1) (dval B32 bs*2^sh)) ([]:List Int)))) (fd B32 (bs.length+1) (dval B32 bs*2^sh))=nd B32 (dval B32 bs*2^sh):=by
    rw[trim_nd B32_le _ _ rfl (dig_fd (by decide) _ _),nd_fd B32_le (Nat.lt_of_lt_of_le hvhi (Nat.pow_le_pow_right (by decide) (by omega)))]
   rw[htr,fd_len,fd_len];have hdw:dval B32 (nd B32 (dval B32 bs*2^sh))=dval B32 bs*2^sh:=dval_nd B32_le _;have hdv':=dig_nd B32_le (dval B32 bs*2^sh);have hu0:dval B32 (fd B32 (as.length+1) (dval B32 as*2^sh))=dval B32 as*2^sh:=by rw[dval_fd,Nat.mod_eq_of_lt hahi]
   have hul:(fd B32 (as.length+1) (dval B32 as*2^sh)).length=as.length+1:=fd_len _ _ _;have hud:dig B32 (fd B32 (as.length+1) (dval B32 as*2^sh))=true:=dig_fd (by decide) _ _;generalize nd B32 (dval B32 bs*2^sh)=vs at*;generalize fd B32 (as.length+1) (dval B32 as*2^sh)=u0 at*;have ht:dval B32 (u0.drop (as.length+1 - bs.length))<dval B32 bs*2^sh:=ld_top (n:=vs.length) B32_le hud hu0 hpow (by omega) (by rw[show as.length+1 - bs.length+vs.length - 1=as.length by omega];exact hhia) (by omega) (by rw[hvl];exact hlow);have hmain:=id_outer (m:=as.length+1 - bs.length) (sh:=sh) hud hdv' (by omega) (by omega) (by omega) (by rw[hvl,hdw];exact hvlo) hsh1 (by rw[hdw];exact ht) ((as.length+1)+4294967310) (by omega);have g2:=dig_low B32_le hdv' (i:=vs.length - 1) (by omega);have g3:=dig_low B32_le hdv' (i:=vs.length - 2) (by omega);have hv1B:dval B32 vs/B32^(vs.length - 1)<4294967296:=by
    have:dval B32 vs/B32^(vs.length - 1)<B32:=by
     rw[Nat.div_lt_iff_lt_mul (Nat.pow_pos (by decide)),Nat.mul_comm,<-Nat.pow_succ,show(vs.length - 1).succ=vs.length by omega];exact dval_lt hdv'
    exact this
   rw[show dval B32 vs/B32^(vs.length - 1)%B32=dval B32 vs/B32^(vs.length - 1)from Nat.mod_eq_of_lt hv1B]at g2;have hv2B:dval B32 vs/B32^(vs.length - 2)%B32<4294967296:=Nat.mod_lt _ (by decide);generalize dval B32 vs/B32^(vs.length - 1)=v1 at*;generalize dval B32 vs/B32^(vs.length - 2)%B32=v2 at*;have e9:(((as.length+1:Nat):Int) - (vs.length:Int))=((as.length+1 - bs.length:Nat):Int):=by omega
   have c3:(bs.length+1)<=1000000000000:=by omega
   have c4:(0:Int)<=(vs.length:Int) - 1:=by omega
   have c5:(vs.length:Int) - 1<(vs.length:Int):=by omega
   have c6:(0:Int)<=(vs.length:Int) - 2:=by omega
   have c7:(vs.length:Int) - 2<(vs.length:Int):=by omega
   have c8:(0:Int)<=((as.length+1 - bs.length:Nat):Int):=by omega
   have c9:((as.length+1 - bs.length:Nat):Int)*4<=281474976710656:=by omega
   rw[e9,wr (x:=((as.length+1 - bs.length:Nat):Int)) (by omega) (by omega),wr (x:=(vs.length:Int) - 1) (by omega) (by omega),wr (x:=(vs.length:Int) - 2) (by omega) (by omega)];simp only[c3,c4,c5,c6,c7,c8,c9,decide_true,if_true,Int.le_refl,Int.toNat_natCast,List.length_replicate,Nat.zero_add];rw[show((vs.length:Int) - 1).toNat=vs.length - 1 by omega,show((vs.length:Int) - 2).toNat=vs.length - 2 by omega,g2,g3,wu (x:=(v1:Int)) (by omega) (by omega),wu (x:=(v2:Int)) (by omega) (by omega),wr (x:=((as.length+1 - bs.length:Nat):Int) - 1) (by omega) (by omega),hmain,hu0,hdw,Nat.mul_div_mul_right _ _ hpow,Nat.mul_mod_mul_right,Nat.mul_div_cancel _ hpow]
abbrev P.i_nat_small_b0 (x1:Int×List Int×Int×Unit) (g2:Int×List Int×Int×Unit->Option ((Int×Bool)×Unit)):Option ((Int×Bool)×Unit):=
 if decide (x1.1>=0)then if decide ((x1.2.1.length:Int)<=2)then if decide (0<=x1.1)then if decide (x1.1<(x1.2.1.length:Int))then g2 (wrap .i64 (x1.1 - 1),x1.2.1,wrap .u64 ((wrap .u64 (x1.2.2.1*4294967296))+(wrap .u64 (x1.2.1.getD x1.1.toNat 0))),())else none else none else some ((x1.2.2.1,decide ((x1.2.1.length:Int)<=2)),())else some ((x1.2.2.1,decide ((x1.2.1.length:Int)<=2)),())
def P.i_nat_small (k:Nat) (x:List Int×Unit):Option ((Int×Bool)×Unit):=
 loopP P.i_nat_small_b0 k (wrap .i64 ((x.1.length:Int) - 1),x.1,0,())
def S.i_nat_small (x:((List Int)×Unit)):(Option ((Int×Bool)×Unit)):=if dig B32 x.1=true/\x.1.length<=1000000000000 then some ((if x.1.length<=2 then((dval B32 x.1:Nat):Int)else 0,decide (x.1.length<=2)),())else none
theorem S.i_nat_small_ok (x r) (h:S.i_nat_small x=some r):∃k,P.i_nat_small k x=some r:=by
 obtain⟨xs,u⟩:=x;unfold S.i_nat_small at h;dsimp only at h;split at h
 case isFalse=>cases h
 rename_i hc;obtain⟨hd,hl⟩:=hc;cases h
 by_cases h2:xs.length<=2
 ·refine⟨xs.length+1,?_⟩;unfold P.i_nat_small;dsimp only;rw[if_pos h2,decide_eq_true h2,wr (by omega) (by omega)];have key:=loop_up0 (k:=xs.length+1) (b:=P.i_nat_small_b0) (n:=xs.length) (st:=fun j=>((xs.length:Int) - 1 - (j:Int),xs,((dval B32 (xs.drop (xs.length - j)):Nat):Int),())) (F:=fun j=>some ((((dval B32 xs:Nat):Int),true),())) (fun j g hj hg=>by
   unfold P.i_nat_small_b0;dsimp only at hg ⊢;have e1:(xs.length:Int) - 1 - (j:Int)>=0:=by omega
   have e2:(xs.length:Int)<=2:=by omega
   have e3:(0:Int)<=(xs.length:Int) - 1 - (j:Int):=by omega
   have e4:(xs.length:Int) - 1 - (j:Int)<(xs.length:Int):=by omega
   simp only[e1,e2,e4,decide_true,if_true];have hi:xs.length - (j+1)<xs.length:=by omega
   have e5:(xs.length:Int) - 1 - (j:Int)=((xs.length - (j+1):Nat):Int):=by omega
   rw[e5,getD_cast xs _ _ hi];have e6:xs.drop (xs.length - (j+1))=xs[xs.length - (j+1)]::xs.drop (xs.length - j):=by
    rw[List.drop_eq_getElem_cons hi];congr 2;omega
   have hx:=dig_get hd hi;have hv:dval B32 (xs.drop (xs.length - j))<B32^1:=by
    have hdd:dig B32 (xs.drop (xs.length - j))=true:=by
     have:=List.take_append_drop (xs.length - j) xs;rw[<-this,dig_append,Bool.and_eq_true]at hd;exact hd.2
    have:=dval_lt hdd;have hp:B32^(xs.drop (xs.length - j)).length<=B32^1:=Nat.pow_le_pow_right (by decide) (by simp;omega);omega
   have hv':dval B32 (xs.drop (xs.length - j))<4294967296:=hv;have hx':xs[xs.length - (j+1)]<4294967296:=hx.2;rw[e6]at hg;rw[<-hg,wr (by omega) (by omega),wu (x:=(dval B32 (xs.drop (xs.length - j)):Int)*4294967296) (by omega) (by omega),wu (x:=xs[xs.length - (j+1)]) (by omega) (by omega),wu (by omega) (by omega)];congr 1;simp only[Prod.mk.injEq,dval];refine⟨by omega,trivial,?_,trivial⟩;show _=(((xs[xs.length - (j+1)]).toNat+4294967296*dval B32 (xs.drop (xs.length - j)):Nat):Int)
   omega) (fun g=>by
   unfold P.i_nat_small_b0;dsimp only;rw[if_neg (by simp;omega),Nat.sub_self,List.drop_zero,decide_eq_true (by omega)]) (by omega)
  have e0:dval B32 (xs.drop (xs.length - 0))=0:=by rw[Nat.sub_zero,List.drop_length];rfl
  rw[show(xs.length:Int) - 1 - ((0:Nat):Int)=(xs.length:Int) - 1 by omega,e0]at key;exact key
 ·refine⟨1,?_⟩;unfold P.i_nat_small;rw[loopP_succ];unfold P.i_nat_small_b0;dsimp only;rw[wr (by omega) (by omega),if_pos (decide_eq_true (by omega)),if_neg (by simp;omega),if_neg h2,decide_eq_false h2,decide_eq_false (by omega)]
abbrev i_nat_gcd.A:=Option (List Int×Unit)
abbrev P.i_nat_gcd_b5 (x6:Int×Int×Unit) (g7:Int×Int×Unit->i_nat_gcd.A):i_nat_gcd.A:=
 if decide (x6.1>0)then if decide (x6.1=0)then none else g7 (Int.tmod x6.2.1 x6.1,x6.1,())else(S.i_natOf (x6.2.1,())).bind fun y8=>some (y8.1,())
abbrev P.i_nat_gcd_b0 (k:Nat) (x1:List Int×List Int×Unit) (g2:List Int×List Int×Unit->i_nat_gcd.A):i_nat_gcd.A:=
 if decide ((x1.1.length:Int)>0)then(S.i_nat_small (x1.2.1,())).bind fun y3=>(S.i_nat_small (x1.1,())).bind fun y4=>if y3.1.2 then if y4.1.2 then loopP P.i_nat_gcd_b5 k (y4.1.1,y3.1.1,())else(S.i_nat_div (x1.2.1,x1.1,())).bind fun y9=>g2 (y9.1.2,x1.1,())else(S.i_nat_div (x1.2.1,x1.1,())).bind fun y10=>g2 (y10.1.2,x1.1,())else some (x1.2.1,())
def P.i_nat_gcd (k:Nat) (x:List Int×List Int×Unit):i_nat_gcd.A:=
 loopP (P.i_nat_gcd_b0 k) k (x.2.1,x.1,())
theorem ig_canon_pos {B:Nat} (hB:2<=B) {xs:List Int} (h:canon B xs=true) (hn:xs≠ []):dval B xs≠0:=by
 intro q;have:=canon_eq h;rw[q,nd_zero hB]at this;exact hn this.symm
theorem ig_shorter {B:Nat} (hB:2<=B) {m n:Nat} (h:m<=n):(nd B m).length<=(nd B n).length:=by
 rw[nd_len hB];exact Nat.lt_of_le_of_lt h ((nd_len hB n _).1 (Nat.le_refl _))
theorem ig_small (n:Nat):∀(x y:Nat) (k:Nat),y<=n->n<k->x<18446744073709551616->y<18446744073709551616->loopP P.i_nat_gcd_b5 k ((y:Int),((x:Int),()))=some (nd B32 (Nat.gcd x y),()):=by
 induction n using Nat.strongRecOn with
 |ind n ih=>
  intro x y k hn hk hx hy;obtain⟨k,rfl⟩:∃j,k=j+1:=⟨k - 1,by omega⟩
  rw[loopP_succ];unfold P.i_nat_gcd_b5;dsimp only
  by_cases hb:y=0
  ·subst hb;rw[if_neg (by simp),Nat.gcd_zero_right];unfold S.i_natOf;dsimp only;rw[if_pos ⟨by omega,by omega⟩,Option.bind_some,Int.toNat_natCast]
  ·have hm:=Nat.mod_lt x (show 0<y by omega);have c1:(y:Int)>0:=by omega
   have c2:¬((y:Int)=0):=by omega
   rw[if_pos (decide_eq_true c1),if_neg (by simpa using hb),Int.tmod_eq_emod_of_nonneg (by omega),<-Int.natCast_emod,ih (x%y) (by omega) y (x%y) k (Nat.le_refl _) (by omega) hy (by omega),gcd_step]
theorem ig_loop (K n:Nat):∀(as bs:List Int) (k:Nat),canon B32 as=true->canon B32 bs=true->as.length<=100000000->bs.length<=100000000->dval B32 bs<=n->n<k->n<K->loopP (P.i_nat_gcd_b0 K) k (bs,(as,()))=some (nd B32 (Nat.gcd (dval B32 as) (dval B32 bs)),()):=by
 induction n using Nat.strongRecOn with
 |ind n ih=>
  intro as bs k ca cb la lb hn hk hK;obtain⟨k,rfl⟩:∃j,k=j+1:=⟨k - 1,by omega⟩
  rw[loopP_succ];unfold P.i_nat_gcd_b0;dsimp only
  by_cases hb:bs=[]
  ·subst hb;rw[if_neg (by simp),show dval B32 []=0 from rfl,Nat.gcd_zero_right,canon_eq ca]
  ·have hpos:0<bs.length:=List.length_pos_iff.2 hb;have hb0:=ig_canon_pos B32_le cb hb;have hm:=Nat.mod_lt (dval B32 as) (show 0<dval B32 bs by omega);have hc:(bs.length:Int)>0:=by omega
   rw[if_pos (decide_eq_true hc)];have sa:S.i_nat_small (as,())=some ((if as.length<=2 then((dval B32 as:Nat):Int)else 0,decide (as.length<=2)),()):=by
    unfold S.i_nat_small;exact if_pos ⟨canon_dig ca,by dsimp only;omega⟩
   have sb:S.i_nat_small (bs,())=some ((if bs.length<=2 then((dval B32 bs:Nat):Int)else 0,decide (bs.length<=2)),()):=by
    unfold S.i_nat_small;exact if_pos ⟨canon_dig cb,by dsimp only;omega⟩
   rw[sa,Option.bind_some,sb,Option.bind_some];dsimp only;have hsmall:∀xs:List Int,dig B32 xs=true->xs.length<=2->dval B32 xs<18446744073709551616:=by
    intro xs hd hl;have h1:=dval_lt hd;have h2:B32^xs.length<=B32^2:=Nat.pow_le_pow_right (by decide) hl;have h3:B32^2=18446744073709551616:=rfl;omega
   have hbig:Option.bind (S.i_nat_div (as,(bs,()))) (fun(y9:(((List Int)×(List Int))×Unit))=>(loopP (P.i_nat_gcd_b0 K) k (y9.1.2,(bs,()))))=some (nd B32 (Nat.gcd (dval B32 as) (dval B32 bs)),()):=by
    unfold S.i_nat_div;dsimp only;rw[if_pos ⟨ca,cb,hb,la,lb⟩,Option.bind_some];dsimp only;have hl:(nd B32 (dval B32 as%dval B32 bs)).length<=bs.length:=by
     have:=ig_shorter B32_le (Nat.le_of_lt hm);rwa [canon_eq cb]at this
    have hd:dval B32 (nd B32 (dval B32 as%dval B32 bs))=dval B32 as%dval B32 bs:=dval_nd B32_le _;rw[ih (dval B32 as%dval B32 bs) (by omega) bs _ k cb (canon_nd B32_le _) lb (by omega) (by rw[hd];exact Nat.le_refl _) (by omega) (by omega),hd,gcd_step]
   by_cases c1:as.length<=2
   ·by_cases c2:bs.length<=2
    ·have s1:=hsmall as (canon_dig ca) c1;have s2:=hsmall bs (canon_dig cb) c2;simp only[c1,c2,decide_true,if_true];exact ig_small n _ _ K hn hK s1 s2
    ·rw[if_pos (decide_eq_true c1),if_neg (by simpa using c2)];exact hbig
   ·rw[if_neg (by simpa using c1)];exact hbig
def S.i_nat_gcd (x:((List Int)×((List Int)×Unit))):(Option ((List Int)×Unit)):=if canon B32 x.1=true/\canon B32 x.2.1=true/\x.1.length<=100000000/\x.2.1.length<=100000000 then some (nd B32 (Nat.gcd (dval B32 x.1) (dval B32 x.2.1)),())else none
theorem S.i_nat_gcd_ok (x r) (h:S.i_nat_gcd x=some r):∃k,P.i_nat_gcd k x=some r:=by
 obtain⟨as,bs,u⟩:=x;unfold S.i_nat_gcd at h;dsimp only at h;split at h
 case isFalse=>cases h
 rename_i hc;obtain⟨ca,cb,la,lb⟩:=hc;cases h;refine⟨dval B32 bs+1,?_⟩;unfold P.i_nat_gcd;exact ig_loop _ (dval B32 bs) as bs _ ca cb la lb (Nat.le_refl _) (by omega) (by omega)
def P.i_lowest (k:Nat) (x:Bool×List Int×List Int×Unit):Option (RB×Unit):=
 if(x.2.1.length:Int)==0 then(S.i_natOf (1,())).bind fun y0=>some ((false,[],y0.1),())else(S.i_nat_gcd (x.2.1,x.2.2.1,())).bind fun y1=>if(y1.1.length:Int)==1 then if decide (0<(y1.1.length:Int))then if(y1.1.getD 0 0)==1 then some ((x.1,x.2.1,x.2.2.1),())else(S.i_nat_div (x.2.1,y1.1,())).bind fun y2=>(S.i_nat_div (x.2.2.1,y1.1,())).bind fun y3=>some ((x.1,y2.1.1,y3.1.1),())else none else(S.i_nat_div (x.2.1,y1.1,())).bind fun y4=>(S.i_nat_div (x.2.2.1,y1.1,())).bind fun y5=>some ((x.1,y4.1.1,y5.1.1),())
def S.i_lowest (x:(Bool×((List Int)×((List Int)×Unit)))):(Option (RB×Unit)):=if canon B32 x.2.1=true/\canon B32 x.2.2.1=true/\x.2.2.1≠ []/\x.2.1.length<=100000000/\x.2.2.1.length<=100000000 then some (rp B32 (lowN x.1 (dval B32 x.2.1) (dval B32 x.2.2.1)),())else none
theorem S.i_lowest_ok (x r) (h:S.i_lowest x=some r):∃k,P.i_lowest k x=some r:=by
 obtain⟨neg,as,bs',u⟩:=x;unfold S.i_lowest at h;dsimp only at h;split at h
 case isFalse=>cases h
 rename_i hc;obtain⟨ca,cb,hne,la,lb⟩:=hc;cases h;refine⟨0,?_⟩;unfold P.i_lowest;dsimp only;have hb0:dval B32 bs'≠0:=fun e=>hne ((canon_nil B32_le cb).2 e)
 by_cases ha:as=[]
 ·subst ha;rw[if_pos (by rfl)];unfold S.i_natOf lowN rp;dsimp only;rw[if_pos ⟨by decide,by decide⟩,Option.bind_some,show dval B32 []=0 from rfl,Nat.gcd_zero_left,Nat.zero_div,Nat.div_self (by omega),nd_zero B32_le];simp
 ·have ha0:dval B32 as≠0:=fun e=>ha ((canon_nil B32_le ca).2 e)
  rw[if_neg (by simpa using ha)];have hg:=gcd_len B32_le ca cb hb0;have hgp:0<Nat.gcd (dval B32 as) (dval B32 bs'):=Nat.gcd_pos_of_pos_right _ (by omega);have e1:S.i_nat_gcd (as,(bs',()))=some (nd B32 (Nat.gcd (dval B32 as) (dval B32 bs')),()):=by
   unfold S.i_nat_gcd;exact if_pos ⟨ca,cb,la,lb⟩
  rw[e1,Option.bind_some];dsimp only;unfold lowN rp;dsimp only;rw[decide_eq_true ha0,Bool.and_true];have hgne:nd B32 (Nat.gcd (dval B32 as) (dval B32 bs'))≠ []:=by
   rw[nd_pos B32_le (by omega)];simp
  have hgd:dval B32 (nd B32 (Nat.gcd (dval B32 as) (dval B32 bs')))=Nat.gcd (dval B32 as) (dval B32 bs'):=dval_nd B32_le _;have hgc:canon B32 (nd B32 (Nat.gcd (dval B32 as) (dval B32 bs')))=true:=canon_nd B32_le _;have e2:∀xs,canon B32 xs=true->xs.length<=100000000->S.i_nat_div (xs,(nd B32 (Nat.gcd (dval B32 as) (dval B32 bs')),()))=some ((nd B32 (dval B32 xs/Nat.gcd (dval B32 as) (dval B32 bs')),nd B32 (dval B32 xs%Nat.gcd (dval B32 as) (dval B32 bs'))),()):=by
   intro xs cx lx;unfold S.i_nat_div;dsimp only;rw[if_pos ⟨cx,hgc,hgne,lx,by omega⟩,hgd]
  rw[e2 as ca la,Option.bind_some,e2 bs' cb lb,Option.bind_some];dsimp only;have hone:nd B32 (Nat.gcd (dval B32 as) (dval B32 bs'))=[1]->as=nd B32 (dval B32 as/Nat.gcd (dval B32 as) (dval B32 bs'))/\bs'=nd B32 (dval B32 bs'/Nat.gcd (dval B32 as) (dval B32 bs')):=by
   intro e;rw[e,dval_one]at hgd;rw[<-hgd,Nat.div_one,Nat.div_one,canon_eq ca,canon_eq cb];exact⟨rfl,rfl⟩
  generalize hgl:nd B32 (Nat.gcd (dval B32 as) (dval B32 bs'))=gl at*
  by_cases h1:gl.length=1
  ·have d1:(((gl.length:Nat):Int)==(1:Int))=true:=by simp [h1]
   have d2:(0:Int)<(gl.length:Int):=by omega
   rw[if_pos d1,if_pos (decide_eq_true d2)];obtain⟨g0,rfl⟩:∃g0,gl=[g0]:=by
    match gl,h1 with
    | [g0],_=>exact⟨g0,rfl⟩
   by_cases h2:g0=1
   ·subst h2;rw[if_pos (by rfl),<-(hone rfl).1,<-(hone rfl).2]
   ·rw[if_neg (by simpa using h2)]
  ·have d1:¬(((gl.length:Nat):Int)==(1:Int))=true:=by simp;omega
   rw[if_neg d1]
def P.i_rat_sign (k:Nat) (x:RB×Unit):Option (Int×Unit):=
 if(x.1.2.1.length:Int)==0 then some (0,())else if x.1.1 then some ((-1:Int),())else some (1,())
def S.i_rat_sign (x:(RB×Unit)):(Option (Int×Unit)):=if canon B32 x.1.2.1=true then some (sgnQ x.1.1 (dval B32 x.1.2.1),())else none
theorem S.i_rat_sign_ok (x r) (h:S.i_rat_sign x=some r):∃k,P.i_rat_sign k x=some r:=by
 obtain⟨⟨n,as,bs⟩,u⟩:=x;unfold S.i_rat_sign at h;dsimp only at h;split at h
 case isFalse=>cases h
 rename_i ca;cases h;refine⟨0,?_⟩;unfold P.i_rat_sign sgnQ;dsimp only;have h:=canon_nil B32_le ca
 by_cases h0:as=[]
 ·rw[if_pos (h.1 h0),h0,if_pos (by rfl)]
 ·rw[if_neg (fun q=>h0 (h.2 q)),if_neg (by simpa using h0)];cases n<;>rfl
def P.i_rat_add (k:Nat) (x:RB×RB×Unit):Option (RB×Unit):=
 (S.i_rat_sign ((x.1.1,x.1.2.1,x.1.2.2),())).bind fun y0=>if y0.1==0 then some ((x.2.1.1,x.2.1.2.1,x.2.1.2.2),())else(S.i_rat_sign ((x.2.1.1,x.2.1.2.1,x.2.1.2.2),())).bind fun y1=>if y1.1==0 then some ((x.1.1,x.1.2.1,x.1.2.2),())else(S.i_nat_cmp (x.1.2.2,x.2.1.2.2,())).bind fun y2=>if y2.1 != 0 then(S.i_nat_mul (x.1.2.1,x.2.1.2.2,())).bind fun y3=>(S.i_nat_mul (x.2.1.2.1,x.1.2.2,())).bind fun y4=>(S.i_nat_mul (x.1.2.2,x.2.1.2.2,())).bind fun y5=>if x.1.1==x.2.1.1 then(S.i_nat_add (y3.1,y4.1,())).bind fun y6=>(S.i_lowest (x.1.1,y6.1,y5.1,())).bind fun y7=>some ((y7.1.1,y7.1.2.1,y7.1.2.2),())else(S.i_nat_cmp (y3.1,y4.1,())).bind fun y8=>if decide (y8.1>=0)then(S.i_nat_sub (y3.1,y4.1,())).bind fun y9=>(S.i_lowest (x.1.1,y9.1,y5.1,())).bind fun y10=>some ((y10.1.1,y10.1.2.1,y10.1.2.2),())else(S.i_nat_sub (y4.1,y3.1,())).bind fun y11=>(S.i_lowest (x.2.1.1,y11.1,y5.1,())).bind fun y12=>some ((y12.1.1,y12.1.2.1,y12.1.2.2),())else if x.1.1==x.2.1.1 then(S.i_nat_add (x.1.2.1,x.2.1.2.1,())).bind fun y13=>(S.i_lowest (x.1.1,y13.1,x.1.2.2,())).bind fun y14=>some ((y14.1.1,y14.1.2.1,y14.1.2.2),())else(S.i_nat_cmp (x.1.2.1,x.2.1.2.1,())).bind fun y15=>if decide (y15.1>=0)then(S.i_nat_sub (x.1.2.1,x.2.1.2.1,())).bind fun y16=>(S.i_lowest (x.1.1,y16.1,x.1.2.2,())).bind fun y17=>some ((y17.1.1,y17.1.2.1,y17.1.2.2),())else(S.i_nat_sub (x.2.1.2.1,x.1.2.1,())).bind fun y18=>(S.i_lowest (x.2.1.1,y18.1,x.1.2.2,())).bind fun y19=>some ((y19.1.1,y19.1.2.1,y19.1.2.2),())
theorem ra_mul (p q:Nat) (hp:(nd B32 p).length<=100000000) (hq:(nd B32 q).length<=100000000):S.i_nat_mul (nd B32 p,(nd B32 q,()))=some (nd B32 (p*q),()):=by
 unfold S.i_nat_mul;dsimp only;rw[if_pos ⟨dig_nd B32_le _,dig_nd B32_le _,by omega,by omega⟩,dval_nd B32_le,dval_nd B32_le]
theorem ra_add (p q:Nat) (hp:(nd B32 p).length<=100000000) (hq:(nd B32 q).length<=100000000):S.i_nat_add (nd B32 p,(nd B32 q,()))=some (nd B32 (p+q),()):=by
 unfold S.i_nat_add;dsimp only;rw[if_pos ⟨dig_nd B32_le _,dig_nd B32_le _,by omega,by omega⟩,dval_nd B32_le,dval_nd B32_le]
theorem ra_sub (p q:Nat) (hp:(nd B32 p).length<=100000000) (h:q<=p):S.i_nat_sub (nd B32 p,(nd B32 q,()))=some (nd B32 (p - q),()):=by
 unfold S.i_nat_sub;dsimp only;rw[dval_nd B32_le,dval_nd B32_le,if_pos ⟨dig_nd B32_le _,dig_nd B32_le _,nd_shorter' B32_le h,h,by omega⟩]
theorem ra_cmp (p q:Nat) (hp:(nd B32 p).length<=100000000):S.i_nat_cmp (nd B32 p,(nd B32 q,()))=some (cmpN p q,()):=by
 unfold S.i_nat_cmp;dsimp only;rw[if_pos ⟨canon_nd B32_le _,canon_nd B32_le _,by omega⟩,dval_nd B32_le,dval_nd B32_le]
theorem ra_low (n:Bool) (p q:Nat) (hp:(nd B32 p).length<=100000000) (hq:(nd B32 q).length<=100000000) (h0:q≠0):S.i_lowest (n,(nd B32 p,(nd B32 q,())))=some (rp B32 (lowN n p q),()):=by
 unfold S.i_lowest;dsimp only;rw[if_pos ⟨canon_nd B32_le _,canon_nd B32_le _,nd_ne B32_le h0,by omega,by omega⟩,dval_nd B32_le,dval_nd B32_le]
theorem ra_sign (n:Bool) (p:Nat) (bs:List Int):S.i_rat_sign ((n,(nd B32 p,bs)),())=some (sgnQ n p,()):=by
 unfold S.i_rat_sign;dsimp only;rw[if_pos (canon_nd B32_le _),dval_nd B32_le]
def S.i_rat_add (x:(RB×(RB×Unit))):(Option (RB×Unit)):=if lowb B32 40000000 x.1=true/\lowb B32 40000000 x.2.1=true then some (rp B32 (addQ (rv B32 x.1) (rv B32 x.2.1)),())else none
theorem S.i_rat_add_ok (x r) (h:S.i_rat_add x=some r):∃k,P.i_rat_add k x=some r:=by
 obtain⟨x,y,u⟩:=x;unfold S.i_rat_add at h;dsimp only at h;split at h
 case isFalse=>cases h
 rename_i hc;obtain⟨hx,hy⟩:=hc;cases h;rw[lowb_iff]at hx hy;obtain⟨hx,lx⟩:=hx;obtain⟨hy,ly⟩:=hy;obtain⟨n1,p1,q1,rfl,x1,x2⟩:=rok_nd hx;obtain⟨n2,p2,q2,rfl,y1,y2⟩:=rok_nd hy;rw[rv_nd B32_le]at lx ly ⊢;rw[rv_nd B32_le];have hq1:q1≠0:=by have:0<q1:=lx.1;omega
 have hq2:q2≠0:=by have:0<q2:=ly.1;omega
 refine⟨0,?_⟩;unfold P.i_rat_add;dsimp only;rw[ra_sign,Option.bind_some];dsimp only
 by_cases h1:p1=0
 ·rw[if_pos (by simpa using sgnQ_zero.2 h1),addQ_zero_left _ _ lx ly h1];rfl
 ·rw[if_neg (by simpa using fun q=>h1 (sgnQ_zero.1 q)),ra_sign,Option.bind_some];dsimp only
  by_cases h2:p2=0
  ·rw[if_pos (by simpa using sgnQ_zero.2 h2),addQ_zero_right _ _ lx ly h2];rfl
  ·rw[if_neg (by simpa using fun q=>h2 (sgnQ_zero.1 q)),ra_cmp q1 q2 (by omega),Option.bind_some];dsimp only;have m1:=nd_mul_len B32_le p1 q2;have m2:=nd_mul_len B32_le p2 q1;have m3:=nd_mul_len B32_le q1 q2
   by_cases hq:q1=q2
   ·rw[if_neg (by simpa using cmpN_zero.2 hq),addQ_same _ _ lx hq];dsimp only;have a1:=nd_add_len B32_le p1 p2;have a2:=nd_sub_len B32_le p1 p2;have a3:=nd_sub_len B32_le p2 p1
    by_cases hn:n1=n2
    ·rw[if_pos (by simpa using hn),if_pos hn,ra_add p1 p2 (by omega) (by omega),Option.bind_some,ra_low n1 _ q1 (by omega) (by omega) hq1,Option.bind_some]
    ·rw[if_neg (by simpa using hn),if_neg hn,ra_cmp p1 p2 (by omega),Option.bind_some];dsimp only;have hlt:=cmpN_lt (a:=p1) (b:=p2)
     by_cases hle:p2<=p1
     ·have hge:cmpN p1 p2>=0:=by omega
      rw[if_pos (decide_eq_true hge),if_pos hle,ra_sub p1 p2 (by omega) hle,Option.bind_some,ra_low n1 _ q1 (by omega) (by omega) hq1,Option.bind_some]
     ·have hge:¬cmpN p1 p2>=0:=by omega
      rw[if_neg (by simpa using hge),if_neg hle,ra_sub p2 p1 (by omega) (by omega),Option.bind_some,ra_low n2 _ q1 (by omega) (by omega) hq1,Option.bind_some]
   ·have hq0:q1*q2≠0:=Nat.mul_ne_zero hq1 hq2;rw[if_pos (by simpa using fun q=>hq (cmpN_zero.1 q)),ra_mul p1 q2 (by omega) (by omega),Option.bind_some,ra_mul p2 q1 (by omega) (by omega),Option.bind_some,ra_mul q1 q2 (by omega) (by omega),Option.bind_some];dsimp only;unfold addQ;dsimp only;have a1:=nd_add_len B32_le (p1*q2) (p2*q1);have a2:=nd_sub_len B32_le (p1*q2) (p2*q1);have a3:=nd_sub_len B32_le (p2*q1) (p1*q2)
    by_cases hn:n1=n2
    ·rw[if_pos (by simpa using hn),if_pos hn,ra_add _ _ (by omega) (by omega),Option.bind_some,ra_low n1 _ _ (by omega) (by omega) hq0,Option.bind_some]
    ·rw[if_neg (by simpa using hn),if_neg hn,ra_cmp _ _ (by omega),Option.bind_some];dsimp only;have hlt:=cmpN_lt (a:=p1*q2) (b:=p2*q1)
     by_cases hle:p2*q1<=p1*q2
     ·have hge:cmpN (p1*q2) (p2*q1)>=0:=by
       rcases Int.lt_or_le (cmpN (p1*q2) (p2*q1)) 0 with g|g
       ·have:=hlt.1 g;omega
       ·exact g
      rw[if_pos (decide_eq_true hge),if_pos hle,ra_sub _ _ (by omega) hle,Option.bind_some,ra_low n1 _ _ (by omega) (by omega) hq0,Option.bind_some]
     ·have hge:¬cmpN (p1*q2) (p2*q1)>=0:=by
       have:=hlt.2 (Nat.lt_of_not_le hle);omega
      rw[if_neg (by simpa using hge),if_neg hle,ra_sub _ _ (by omega) (Nat.le_of_lt (Nat.lt_of_not_le hle)),Option.bind_some,ra_low n2 _ _ (by omega) (by omega) hq0,Option.bind_some]
theorem ri_add {x y:Q3} {m n:Nat} (hx:low x) (bx:below m x) (hy:low y) (bY:below n y) (hm:m<=350000000) (hn:n<=350000000):S.i_rat_add (rp B32 x,(rp B32 y,()))=some (rp B32 (addQ x y),()):=by
 unfold S.i_rat_add;dsimp only;rw[if_pos ⟨lowb_rp9 (by decide) hx bx (by omega),lowb_rp9 (by decide) hy bY (by omega)⟩,rv_rp B32_le,rv_rp B32_le]
def P.i_rat_cmp (k:Nat) (x:RB×RB×Unit):Option (Int×Unit):=
 (S.i_rat_sign ((x.1.1,x.1.2.1,x.1.2.2),())).bind fun y0=>(S.i_rat_sign ((x.2.1.1,x.2.1.2.1,x.2.1.2.2),())).bind fun y1=>if y0.1 != y1.1 then(S.i_rat_sign ((x.1.1,x.1.2.1,x.1.2.2),())).bind fun y2=>(S.i_rat_sign ((x.2.1.1,x.2.1.2.1,x.2.1.2.2),())).bind fun y3=>some (wrap .i64 (y2.1 - y3.1),())else(S.i_nat_mul (x.1.2.1,x.2.1.2.2,())).bind fun y4=>(S.i_nat_mul (x.2.1.2.1,x.1.2.2,())).bind fun y5=>(S.i_nat_cmp (y4.1,y5.1,())).bind fun y6=>if x.1.1 then some (wrap .i64 (0 - y6.1),())else some (y6.1,())
def S.i_rat_cmp (x:(RB×(RB×Unit))):(Option (Int×Unit)):=P.i_rat_cmp 0 x
theorem S.i_rat_cmp_ok (x r) (h:S.i_rat_cmp x=some r):∃k,P.i_rat_cmp k x=some r:=⟨0,h⟩
theorem ri_cmp {x y:Q3} (hx:low x) (hy:low y) (bx:below 350000000 x) (bY:below 350000000 y):S.i_rat_cmp (rp B32 x,(rp B32 y,()))=some (cmpZ x y,()):=by
 have sg:∀r:Q3,S.i_rat_sign (rp B32 r,())=some (sgnQ r.1 r.2.1,()):=by
  intro r;unfold S.i_rat_sign rp;dsimp only;rw[if_pos (canon_nd B32_le _),dval_nd B32_le]
 have kx:=rok_iff.1 (below_rok9 (B:=B32) (N:=40000000) (by decide) bx (by decide));have ky:=rok_iff.1 (below_rok9 (B:=B32) (N:=40000000) (by decide) bY (by decide));have mul:∀p q:Nat,(nd B32 p).length<=40000000->(nd B32 q).length<=40000000->S.i_nat_mul (nd B32 p,(nd B32 q,()))=some (nd B32 (p*q),()):=by
  intro p q hp hq;unfold S.i_nat_mul;dsimp only;rw[if_pos ⟨dig_nd B32_le _,dig_nd B32_le _,by omega,by omega⟩,dval_nd B32_le,dval_nd B32_le]
 have l1:(nd B32 x.2.1).length<=40000000:=kx.2.2.1;have l2:(nd B32 x.2.2).length<=40000000:=kx.2.2.2;have l3:(nd B32 y.2.1).length<=40000000:=ky.2.2.1;have l4:(nd B32 y.2.2).length<=40000000:=ky.2.2.2;have lm:=nd_mul_len B32_le x.2.1 y.2.2;have hc:S.i_nat_cmp (nd B32 (x.2.1*y.2.2),(nd B32 (y.2.1*x.2.2),()))=some (cmpN (x.2.1*y.2.2) (y.2.1*x.2.2),()):=by
  unfold S.i_nat_cmp;dsimp only;rw[if_pos ⟨canon_nd B32_le _,canon_nd B32_le _,by omega⟩,dval_nd B32_le,dval_nd B32_le]
 have hr:=cmpN_range (x.2.1*y.2.2) (y.2.1*x.2.2);have s1:∀r:Q3, -1<=sgnQ r.1 r.2.1/\sgnQ r.1 r.2.1<=1:=by
  intro r;unfold sgnQ;split
  ·omega
  ·split<;>omega
 have sx:=s1 x;have sy:=s1 y;unfold S.i_rat_cmp P.i_rat_cmp cmpZ;dsimp only;show Option.bind (S.i_rat_sign (rp B32 x,())) (fun y0=>Option.bind (S.i_rat_sign (rp B32 y,())) (fun y1=>if(y0.1 != y1.1)=true then Option.bind (S.i_rat_sign (rp B32 x,())) (fun y2=>Option.bind (S.i_rat_sign (rp B32 y,())) (fun y3=>some (IntKind.wrap .i64 (y2.1 - y3.1),())))else Option.bind (S.i_nat_mul (nd B32 x.2.1,(nd B32 y.2.2,()))) (fun y4=>Option.bind (S.i_nat_mul (nd B32 y.2.1,(nd B32 x.2.2,()))) (fun y5=>Option.bind (S.i_nat_cmp (y4.1,(y5.1,()))) (fun y6=>if x.1=true then some (IntKind.wrap .i64 (0 - y6.1),())else some (y6.1,()))))))=_;rw[sg x,sg y,mul _ _ l1 l4,mul _ _ l3 l2];simp only[Option.bind_some];rw[hc];simp only[Option.bind_some]
 by_cases hs:sgnQ x.1 x.2.1=sgnQ y.1 y.2.1
 ·rw[if_neg (show ¬((sgnQ x.1 x.2.1 != sgnQ y.1 y.2.1)=true) by simpa using hs),if_neg (show ¬(sgnQ x.1 x.2.1≠sgnQ y.1 y.2.1) by simpa using hs)];cases hn:x.1
  ·rfl
  ·simp only[if_true];rw[wr (by omega) (by omega),Int.zero_sub]
 ·rw[if_pos (show(sgnQ x.1 x.2.1 != sgnQ y.1 y.2.1)=true by simpa using hs),if_pos (show sgnQ x.1 x.2.1≠sgnQ y.1 y.2.1 from hs),wr (by omega) (by omega)]
def P.i_rat_isOne (k:Nat) (x:RB×Unit):Option (Bool×Unit):=
 (S.i_whole (1,())).bind fun y0=>(S.i_rat_cmp ((x.1.1,x.1.2.1,x.1.2.2),(y0.1.1,y0.1.2.1,y0.1.2.2),())).bind fun y1=>some (y1.1==0,())
def S.i_rat_isOne (x:(RB×Unit)):(Option (Bool×Unit)):=if rok B32 40000000 x.1=true/\qok (rv B32 x.1)=true then some (isOneQ (rv B32 x.1),())else none
theorem S.i_rat_isOne_ok (x r) (h:S.i_rat_isOne x=some r):∃k,P.i_rat_isOne k x=some r:=by
 obtain⟨x,u⟩:=x;unfold S.i_rat_isOne at h;dsimp only at h;split at h
 case isFalse=>cases h
 rename_i hc;obtain⟨hr,hq⟩:=hc;obtain⟨n,p,q,rfl,l1,l2⟩:=rok_nd hr;rw[rv_nd B32_le]at h hq;rw[qok_iff]at hq;obtain⟨h0,h1⟩:=hq;dsimp only at h0 h1;cases h;refine⟨0,?_⟩;have hw:S.i_whole (1,())=some ((false,(nd B32 1,nd B32 1)),()):=by rfl
 unfold P.i_rat_isOne isOneQ;dsimp only;rw[hw,Option.bind_some];dsimp only;unfold S.i_rat_cmp P.i_rat_cmp;dsimp only;have hs:∀(n:Bool) (p:Nat) (ys:List Int),S.i_rat_sign ((n,(nd B32 p,ys)),())=some (sgnQ n p,()):=by
  intro n p ys;unfold S.i_rat_sign;dsimp only;rw[if_pos (canon_nd B32_le _),dval_nd B32_le]
 have o1:(nd B32 1).length<=40000000:=by rw[nd_one B32_le];decide
 have em:∀p q,(nd B32 p).length<=40000000->(nd B32 q).length<=40000000->S.i_nat_mul (nd B32 p,(nd B32 q,()))=some (nd B32 (p*q),()):=by
  intro p q hp hq;unfold S.i_nat_mul;dsimp only;rw[if_pos ⟨dig_nd B32_le _,dig_nd B32_le _,by omega,by omega⟩,dval_nd B32_le,dval_nd B32_le]
 have ec:S.i_nat_cmp (nd B32 (p*1),(nd B32 (1*q),()))=some (cmpN (p*1) (1*q),()):=by
  unfold S.i_nat_cmp;dsimp only;rw[if_pos ⟨canon_nd B32_le _,canon_nd B32_le _,by rw[Nat.mul_one];omega⟩,dval_nd B32_le,dval_nd B32_le]
 rw[hs,Option.bind_some,hs,Option.bind_some];dsimp only;have s1:sgnQ false 1=1:=rfl;rw[s1]
 by_cases hp:p=0
 ·subst hp;rw[decide_eq_false (fun z=>by have:=z.2;omega)];rfl
 ·cases n
  ·have s2:sgnQ false p=1:=by
    unfold sgnQ;rw[if_neg hp];rfl
   rw[s2,if_neg (by decide),em _ _ l1 o1,Option.bind_some,em _ _ o1 l2,Option.bind_some];dsimp only;rw[ec,Option.bind_some];dsimp only;rw[if_neg (by decide),Option.bind_some];have hz:=cmpN_zero (a:=p*1) (b:=1*q);rw[Nat.mul_one,Nat.one_mul]at hz ⊢
   by_cases he:p=q
   ·rw[decide_eq_true ⟨rfl,he⟩,hz.2 he];rfl
   ·rw[decide_eq_false (fun z=>he z.2)];dsimp only;rw[beq_eq_false_iff_ne.2 (fun z=>he (hz.1 z))]
  ·have s2:sgnQ true p= -1:=by
    unfold sgnQ;rw[if_neg hp];rfl
   rw[s2,decide_eq_false (fun z=>by cases z.1)];rfl
def S.strings_Cut (x:(ByteArray×(ByteArray×Unit))):(Option ((ByteArray×(ByteArray×Bool))×Unit)):=if x.1.size<4294967281 then some ((⟨(Go.Lib.cut x.1.data.toList x.2.1.data.toList).1.toArray⟩,(⟨(Go.Lib.cut x.1.data.toList x.2.1.data.toList).2.1.toArray⟩,(Go.Lib.cut x.1.data.toList x.2.1.data.toList).2.2)),())else none
def S.strings_CutPrefix (x:(ByteArray×(ByteArray×Unit))):(Option ((ByteArray×Bool)×Unit)):=some ((⟨(Go.Lib.trimPrefix x.1.data.toList x.2.1.data.toList).toArray⟩,Go.Lib.hasPrefix x.1.data.toList x.2.1.data.toList),())
def S.strconv_ParseUint (x:(ByteArray×(Int×(Int×Unit)))):(Option ((Int×Bool)×Unit)):=if x.2.1=10/\x.2.2.1=64/\x.1.size<=281474976710656 then some (match Go.Lib.parseUintB 64 x.1.data.toList with| .ok v=>(((v:Nat):Int),false)| .«syntax» =>(0,true)| .range=>(18446744073709551615,true),())else none
abbrev i_readNat.A:=Int×Int×ByteArray×List Int×Unit
abbrev i_readNat.B:=Option ((List Int×Bool)×Unit)
abbrev P.i_readNat_b7 (g5:ByteArray×List Int×Unit->i_readNat.B) (x8:Int×Int×Int×List Int×Int×ByteArray×Int×Unit) (g9:Int×Int×Int×List Int×Int×ByteArray×Int×Unit->i_readNat.B):i_readNat.B:=
 (fun(a b c e h:Int) (d:List Int) (f:ByteArray)=>if decide (a<b)then g9 (wrap .i64 (a+1),b,wrap .u64 (c*10),d,e,f,h,())else(S.i_natOf (c,())).bind fun y10=>(S.i_nat_mul (d,y10.1,())).bind fun y11=>(S.i_natOf (e,())).bind fun y12=>(S.i_nat_add (y11.1,y12.1,())).bind fun y13=>if decide (0<=(f.size:Int))then if decide ((f.size:Int)<=(f.size:Int))then if decide (0<=h)then if decide (h<=(f.size:Int))then g5 (ByteArray.extract f h.toNat (Int.toNat (f.size:Int)),y13.1,())else none else none else none else none) x8.1 x8.2.1 x8.2.2.1 x8.2.2.2.2.1 x8.2.2.2.2.2.2.1 x8.2.2.2.1 x8.2.2.2.2.2.1
abbrev P.i_readNat_b3 (k:Nat) (x4:ByteArray×List Int×Unit) (g5:ByteArray×List Int×Unit->i_readNat.B):i_readNat.B:=
 if ! ((ByteArray.toList x4.1)==(ByteArray.toList (bs [])))then if(Int.tmod (x4.1.size:Int) 9)==0 then if decide (9<=(x4.1.size:Int))then(S.strconv_ParseUint (ByteArray.extract x4.1 0 9,10,64,())).bind fun y6=>loopP (P.i_readNat_b7 g5) k (0,9,1,x4.2.1,y6.1.1,x4.1,9,())else none else if decide (0<=(Int.tmod (x4.1.size:Int) 9))then if decide ((Int.tmod (x4.1.size:Int) 9)<=(x4.1.size:Int))then if decide (0<=(Int.tmod (x4.1.size:Int) 9))then(S.strconv_ParseUint (ByteArray.extract x4.1 0 (Int.toNat (Int.tmod (x4.1.size:Int) 9)),10,64,())).bind fun y14=>loopP (P.i_readNat_b7 g5) k (0,Int.tmod (x4.1.size:Int) 9,1,x4.2.1,y14.1.1,x4.1,Int.tmod (x4.1.size:Int) 9,())else none else none else none else some ((x4.2.1,true),())
abbrev P.i_readNat_b0 (k:Nat) (x1:i_readNat.A) (g2:i_readNat.A->i_readNat.B):i_readNat.B:=
 if decide (x1.1<x1.2.1)then if decide (0<=x1.1)then if decide (x1.1<(x1.2.2.1.size:Int))then if decide ((byteAt x1.2.2.1 x1.1)<48)then some (([],false),())else if decide (0<=x1.1)then if decide (x1.1<(x1.2.2.1.size:Int))then if decide ((byteAt x1.2.2.1 x1.1)>57)then some (([],false),())else g2 (wrap .i64 (x1.1+1),x1.2.1,x1.2.2.1,x1.2.2.2.1,())else none else none else none else none else loopP (P.i_readNat_b3 k) k (x1.2.2.1,x1.2.2.2.1,())
abbrev P.i_readNat_b22 (k:Nat) (x23:i_readNat.A) (g24:i_readNat.A->i_readNat.B):i_readNat.B:=
 (fun(a b:Int) (c:ByteArray) (d:List Int)=>if decide (a<b)then if decide (0<=a)then if decide (a<(c.size:Int))then if decide ((byteAt c a)<48)then some (([],false),())else if decide (0<=a)then if decide (a<(c.size:Int))then if decide ((byteAt c a)>57)then some (([],false),())else g24 (wrap .i64 (a+1),b,c,d,())else none else none else none else none else loopP (P.i_readNat_b3 k) k (c,d,())) x23.1 x23.2.1 x23.2.2.1 x23.2.2.2.1
def P.i_readNat (k:Nat) (x:ByteArray×Unit):i_readNat.B:=
 if(ByteArray.toList x.1)==(ByteArray.toList (bs []))then some (([],false),())else if decide ((x.1.size:Int)>200)then some (([],false),())else if decide (0<(x.1.size:Int))then if(byteAt x.1 0)==48 then if decide ((x.1.size:Int)>1)then some (([],false),())else loopP (P.i_readNat_b0 k) k (0,(x.1.size:Int),x.1,[],())else loopP (P.i_readNat_b22 k) k (0,(x.1.size:Int),x.1,[],())else none
theorem rn_len {p m:Nat} (h:p<10^m):(nd B32 p).length<=m:=by
 rw[nd_len B32_le];exact Nat.lt_of_lt_of_le h (Nat.pow_le_pow_left (by decide) _)
theorem rn_times (g) (t:ByteArray) (p v n:Nat) (hn:n<=9) (hv:v<10^n) (hp:p<10^200) (hnl:n<=t.size) (K:Nat) (hK:n<K):
  loopP (P.i_readNat_b7 g) K ((0:Int),((n:Int),((1:Int),(nd B32 p,((v:Int),(t,((n:Int),())))))))=g (ByteArray.extract t n t.size,(nd B32 (p*10^n+v),())):=by
 have hp9:10^n<=10^9:=Nat.pow_le_pow_right (by decide) hn;have h9:(10:Nat)^9=1000000000:=by decide
 have key:=loop_up0 (k:=K) (b:=P.i_readNat_b7 g) (n:=n) (st:=fun i=>((i:Int),(n:Int),((10^i:Nat):Int),nd B32 p,(v:Int),t,(n:Int),())) (F:=fun i=>g (ByteArray.extract t n t.size,(nd B32 (p*10^n+v),()))) (fun i g' hi hg'=>by
  unfold P.i_readNat_b7;dsimp only at hg' ⊢;refine Eq.trans ?_ hg';have e1:(i:Int)<(n:Int):=by omega
  have hpi:10^(i+1)<=10^9:=Nat.pow_le_pow_right (by decide) (by omega);rw[Nat.pow_succ]at hpi ⊢;rw[if_pos (decide_eq_true e1),wr (by omega) (by omega),show((10^i:Nat):Int)*10=((10^i*10:Nat):Int) by omega,wu (by omega) (by omega)];rfl) (fun g'=>by
  unfold P.i_readNat_b7;dsimp only;rw[if_neg (by simp)];unfold S.i_natOf S.i_nat_mul S.i_nat_add;dsimp only;have hl1:=rn_len hp;have hl2:=rn_len (p:=10^n) (m:=10) (by omega);have hl3:(nd B32 (p*10^n)).length<=209:=rn_len (by
   have:p*10^n<10^200*10^9:=Nat.mul_lt_mul_of_lt_of_le hp hp9 (Nat.pow_pos (by decide));rwa [<-Nat.pow_add]at this)
  have hl4:=rn_len (p:=v) (m:=9) (by omega);rw[if_pos ⟨by omega,by omega⟩,Option.bind_some,Int.toNat_natCast];dsimp only;rw[if_pos ⟨dig_nd B32_le _,dig_nd B32_le _,by omega,by omega⟩,Option.bind_some,if_pos ⟨by omega,by omega⟩,Option.bind_some,Int.toNat_natCast];dsimp only;rw[dval_nd B32_le,dval_nd B32_le,if_pos ⟨dig_nd B32_le _,dig_nd B32_le _,by omega,by omega⟩,Option.bind_some,dval_nd B32_le,dval_nd B32_le];have c1:(0:Int)<=(t.size:Int):=by omega
  have c2:(0:Int)<=(n:Int):=by omega
  have c3:(n:Int)<=(t.size:Int):=by omega
  rw[if_pos (decide_eq_true c1),if_pos (decide_eq_true (Int.le_refl _)),if_pos (decide_eq_true c2),if_pos (decide_eq_true c3),Int.toNat_natCast,Int.toNat_natCast]) hK
 exact key
theorem rn_loop (K:Nat) (hK:10<=K) (m:Nat):∀(t:ByteArray) (p k:Nat),t.data.toList.length=m->allD t.data.toList=true->m<=200->p<10^(200 - m)->m<k->
  loopP (P.i_readNat_b3 K) k (t,(nd B32 p,()))=some ((nd B32 (p*10^m+dv t.data.toList),true),()):=by
 induction m using Nat.strongRecOn with
 |ind m ih=>
  intro t p k hm hd hm2 hp hk;obtain⟨k,rfl⟩:∃j,k=j+1:=⟨k - 1,by omega⟩
  rw[loopP_succ];have hs:t.size=t.data.toList.length:=by rw[Array.length_toList];rfl
  have hstep:∀n:Nat,0<n->n<=9->n<=m->Option.bind (S.strconv_ParseUint (ByteArray.extract t 0 n,(10,(64,())))) (fun(y6:((Int×Bool)×Unit))=>(Go.Cm.loopP (P.i_readNat_b7 (loopP (P.i_readNat_b3 K) k)) K ((0:Int),((n:Int),((1:Int),(nd B32 p,(y6.1.1,(t,((n:Int),())))))))))=some ((nd B32 (p*10^m+dv t.data.toList),true),()):=by
   intro n hn0 hn9 hnm;have hx:(ByteArray.extract t 0 n).data.toList=t.data.toList.take n:=by rw[ext_list,List.drop_zero]
   have hxl:(t.data.toList.take n).length=n:=by simp;omega
   have hxs:(ByteArray.extract t 0 n).size=n:=by
    have:(ByteArray.extract t 0 n).size=(ByteArray.extract t 0 n).data.toList.length:=by rw[Array.length_toList];rfl
    rw[this,hx,hxl]
   have hdx:=allD_take hd n;have hpar:=parse_dv (t.data.toList.take n) hdx (by intro q;rw[q]at hxl;simp at hxl;omega) (by omega);unfold S.strconv_ParseUint;dsimp only;rw[if_pos ⟨rfl,rfl,by omega⟩,hx,hpar,Option.bind_some];dsimp only;have hv:=dv_lt hdx;rw[hxl]at hv;have hp200:p<10^200:=Nat.lt_of_lt_of_le hp (Nat.pow_le_pow_right (by decide) (by omega));rw[rn_times _ t p _ n hn9 hv hp200 (by omega) K (by omega)];have hd2:(ByteArray.extract t n t.size).data.toList=t.data.toList.drop n:=by
    rw[ext_list,List.take_of_length_le (by omega)]
   have hl2:(t.data.toList.drop n).length=m - n:=by simp;omega
   have hb:p*10^n+dv (t.data.toList.take n)<10^(200 - (m - n)):=by
    have h1:(p+1)*10^n<=10^(200 - m)*10^n:=Nat.mul_le_mul_right _ hp;rw[<-Nat.pow_add,show 200 - m+n=200 - (m - n) by omega,Nat.add_mul,Nat.one_mul]at h1;omega
   rw[ih (m - n) (by omega) _ _ k (by rw[hd2,hl2]) (by rw[hd2];exact allD_drop hd n) (by omega) hb (by omega),hd2];have h3:=dv_append (t.data.toList.take n) (t.data.toList.drop n);rw[List.take_append_drop,hl2]at h3;rw[h3,Nat.add_mul,Nat.mul_assoc,<-Nat.pow_add,show n+(m - n)=m by omega,Nat.add_assoc]
  generalize loopP (P.i_readNat_b3 K) k=G at hstep ⊢;unfold P.i_readNat_b3;dsimp only;have hbs:ByteArray.toList (bs [])=[]:=by rw[ByteArray.toList_eq];rfl
  rw[hbs,ByteArray.toList_eq,hs,hm]
  by_cases h0:m=0
  ·subst h0;have:t.data.toList=[]:=List.eq_nil_of_length_eq_zero hm;rw[this,if_neg (by simp),Nat.pow_zero,Nat.mul_one,show dv []=0 from rfl,Nat.add_zero]
  ·have hne:t.data.toList≠ []:=by
    intro q;rw[q]at hm;simp at hm;omega
   have hmod:Int.tmod (m:Int) 9=((m%9:Nat):Int):=by
    rw[Int.tmod_eq_emod_of_nonneg (by omega)];omega
   rw[if_pos (by simpa using hne),hmod]
   by_cases h9:m%9=0
   ·have c1:(9:Int)<=(m:Int):=by omega
    rw[if_pos (by simp [h9]),if_pos (decide_eq_true c1)];exact hstep 9 (by omega) (by omega) (by omega)
   ·have c1:(0:Int)<=((m%9:Nat):Int):=by omega
    have c2:((m%9:Nat):Int)<=(m:Int):=by omega
    rw[if_neg (by simp;omega),if_pos (decide_eq_true c1),if_pos (decide_eq_true c2),if_pos (decide_eq_true c1),Int.toNat_natCast];exact hstep (m%9) (by omega) (by omega) (by omega)
theorem rn_scan (b:Nat->(Int×(Int×(ByteArray×((List Int)×Unit))))->((Int×(Int×(ByteArray×((List Int)×Unit))))->Option (((List Int)×Bool)×Unit))->Option (((List Int)×Bool)×Unit)) (hbb:b=P.i_readNat_b0) (t:ByteArray) (hl:t.data.toList.length<=200) (K:Nat) (hK:300<=K):
  loopP (b K) K ((0:Int),((t.size:Int),(t,([],()))))=some (if allD t.data.toList=true then(nd B32 (dv t.data.toList),true)else([],false),()):=by
 subst hbb;have hs:t.size=t.data.toList.length:=by rw[Array.length_toList];rfl
 rw[hs];have hloop:=rn_loop K (by omega) t.data.toList.length t 0 K rfl;generalize hL:t.data.toList=l at*;have key:∀d i k:Nat,i+d=l.length->d<k->allD (l.take i)=true->loopP (P.i_readNat_b0 K) k ((i:Int),((l.length:Int),(t,(([]:List Int),()))))=some (if allD l=true then(nd B32 (dv l),true)else([],false),()):=by
  intro d
  induction d with
  |zero=>
   intro i k hi hk hd;obtain⟨k,rfl⟩:∃j,k=j+1:=⟨k - 1,by omega⟩
   have:i=l.length:=by omega
   subst this;rw[List.take_length]at hd;rw[loopP_succ];unfold P.i_readNat_b0;dsimp only;rw[if_neg (by simp),if_pos hd];have:=hloop hd hl (Nat.pow_pos (by decide)) (by omega);rw[nd_zero B32_le,Nat.zero_mul,Nat.zero_add]at this;exact this
  |succ d ih=>
   intro i k hi hk hd;obtain⟨k,rfl⟩:∃j,k=j+1:=⟨k - 1,by omega⟩
   have hil:i<l.length:=by omega
   rw[loopP_succ];unfold P.i_readNat_b0;dsimp only;have e1:(i:Int)<(l.length:Int):=by omega
   have e2:(0:Int)<=(i:Int):=by omega
   have hb:byteAt t (i:Int)=(l[i].toNat:Int):=by
    unfold byteAt;rw[hL,getD_cast l i _ hil]
   have ha2:allD (l.take (i+1))=(allD (l.take i)&&isD l[i]):=by
    rw[<-List.take_append_getElem hil,allD_append];simp [allD]
   have ha3:allD l=true->isD l[i]=true:=fun q=>decide_eq_true (allD_get q hil)
   rw[hs,hb,wr (x:=(i:Int)+1) (by omega) (by omega)];simp only[e1,e2,decide_true,if_true]
   by_cases c1:48<=l[i].toNat
   ·rw[if_neg (by simp;omega)]
    by_cases c2:l[i].toNat<=57
    ·have:isD l[i]=true:=decide_eq_true ⟨c1,c2⟩;rw[this,Bool.and_true]at ha2;rw[if_neg (by simp;omega)];exact ih (i+1) k (by omega) (by omega) (by rw[ha2];exact hd)
    ·have:isD l[i]=false:=decide_eq_false (fun q=>c2 q.2);rw[if_pos (decide_eq_true (by omega)),if_neg (fun q=>by rw[ha3 q]at this;cases this)]
   ·have:isD l[i]=false:=decide_eq_false (fun q=>c1 q.1);rw[if_pos (decide_eq_true (by omega)),if_neg (fun q=>by rw[ha3 q]at this;cases this)]
 exact key l.length 0 K (by omega) (by omega) rfl
def S.i_readNat (x:(ByteArray×Unit)):(Option (((List Int)×Bool)×Unit)):=some (if okN x.1.data.toList=true then(nd B32 (dv x.1.data.toList),true)else([],false),())
theorem S.i_readNat_ok (x r) (h:S.i_readNat x=some r):∃k,P.i_readNat k x=some r:=by
 obtain⟨t,u⟩:=x;unfold S.i_readNat at h;dsimp only at h;refine⟨300,?_⟩;rw[<-h];unfold P.i_readNat;dsimp only;have hs:t.size=t.data.toList.length:=by rw[Array.length_toList];rfl
 have hbs:ByteArray.toList (bs [])=[]:=by rw[ByteArray.toList_eq];rfl
 rw[hbs,ByteArray.toList_eq];have hscan:=rn_scan P.i_readNat_b0 rfl t;have hscan2:=rn_scan P.i_readNat_b22 rfl t;unfold okN okR
 by_cases h1:t.data.toList=[]
 ·rw[h1,if_pos (by rfl)];rfl
 ·have hpos:0<t.data.toList.length:=List.length_pos_iff.2 h1;rw[if_neg (by simpa using h1),decide_eq_true h1,Bool.true_and,hs]
  by_cases h2:t.data.toList.length<=200
  ·have d2:¬(t.data.toList.length:Int)>200:=by omega
   have d3:(0:Int)<(t.data.toList.length:Int):=by omega
   rw[if_neg (by simpa using d2),if_pos (decide_eq_true d3),decide_eq_true h2,Bool.true_and];have s1:=hscan h2 300 (by omega);have s2:=hscan2 h2 300 (by omega);rw[hs]at s1 s2;have hb:byteAt t 0=(t.data.toList[0].toNat:Int):=by
    exact congrArg (fun c:UInt8=>(c.toNat:Int)) (getD_cast t.data.toList 0 0 hpos)
   have hh:t.data.toList.head? =some t.data.toList[0]:=by
    generalize t.data.toList=l at*;cases l with
    |nil=>simp at h1
    |cons c r=>rfl
   rw[hb,hh]
   by_cases c1:t.data.toList[0]=48
   ·rw[c1,if_pos (by rfl)]
    by_cases h3:t.data.toList.length=1
    ·have d4:¬(t.data.toList.length:Int)>1:=by omega
     rw[if_neg (by simpa using d4),s1,decide_eq_true h3,Bool.true_or,Bool.and_true]
    ·have d4:(t.data.toList.length:Int)>1:=by omega
     rw[if_pos (decide_eq_true d4),decide_eq_false h3,Bool.false_or,decide_eq_false (by simp),Bool.and_false,if_neg (by simp)]
   ·have c2:¬((t.data.toList[0].toNat:Int)=48):=by
     intro q;apply c1;apply UInt8.toNat_inj.1;show _=48;omega
    rw[if_neg (by simpa using c2),s2,decide_eq_true (p:=some t.data.toList[0]≠some 48) (by simpa using c1),Bool.or_true,Bool.and_true]
  ·have d2:(t.data.toList.length:Int)>200:=by omega
   rw[if_pos (decide_eq_true d2),decide_eq_false h2,Bool.false_and,Bool.and_false,if_neg (by simp)]
def P.i_readRat (k:Nat) (x:ByteArray×Unit):Option ((RB×Bool)×Unit):=
 (S.strings_Cut (x.1,bs [47],())).bind fun y0=>(S.strings_CutPrefix (y0.1.1,bs [45],())).bind fun y1=>(S.i_readNat (y1.1.1,())).bind fun y2=>if !y2.1.2 then some (((false,[],[]),false),())else if y1.1.2 then if(y2.1.1.length:Int)==0 then some (((false,[],[]),false),())else(S.i_natOf (1,())).bind fun y3=>if !y0.1.2.2 then some (((y1.1.2,y2.1.1,y3.1),true),())else(S.i_readNat (y0.1.2.1,())).bind fun y4=>if !y4.1.2 then some (((false,[],[]),false),())else(S.i_natOf (1,())).bind fun y5=>(S.i_nat_cmp (y4.1.1,y5.1,())).bind fun y6=>if decide (y6.1<=0)then some (((false,[],[]),false),())else(S.i_nat_gcd (y2.1.1,y4.1.1,())).bind fun y7=>(S.i_natOf (1,())).bind fun y8=>(S.i_nat_cmp (y7.1,y8.1,())).bind fun y9=>if y9.1 != 0 then some (((false,[],[]),false),())else some (((y1.1.2,y2.1.1,y4.1.1),true),())else(S.i_natOf (1,())).bind fun y10=>if !y0.1.2.2 then some (((y1.1.2,y2.1.1,y10.1),true),())else(S.i_readNat (y0.1.2.1,())).bind fun y11=>if !y11.1.2 then some (((false,[],[]),false),())else(S.i_natOf (1,())).bind fun y12=>(S.i_nat_cmp (y11.1.1,y12.1,())).bind fun y13=>if decide (y13.1<=0)then some (((false,[],[]),false),())else(S.i_nat_gcd (y2.1.1,y11.1.1,())).bind fun y14=>(S.i_natOf (1,())).bind fun y15=>(S.i_nat_cmp (y14.1,y15.1,())).bind fun y16=>if y16.1 != 0 then some (((false,[],[]),false),())else some (((y1.1.2,y2.1.1,y11.1.1),true),())
def S.i_readRat (x:(ByteArray×Unit)):(Option ((RB×Bool)×Unit)):=if x.1.size<4294967281 then some ((rp B32 (rdRat x.1.data.toList).1,(rdRat x.1.data.toList).2),())else none
theorem rr_bad:((false,(([]:List Int),([]:List Int))),false)=(rp B32 noQ.1,noQ.2):=by
 unfold noQ rp;dsimp only;rw[nd_zero B32_le]
theorem natOf_one:S.i_natOf (1,())=some (nd B32 1,()):=by
 unfold S.i_natOf;rfl
theorem rr_rest (neg:Bool) (c:List UInt8×List UInt8×Bool) (hok:okN c.1=true) (hn:¬(neg=true/\dv c.1=0)):
  (Option.bind (S.i_natOf ((1:Int),())) (fun(y10:((List Int)×Unit))=>(if((!c.2.2)=true)then(some (((neg,(nd B32 (dv c.1),y10.1)),true),()))
 else(Option.bind (S.i_readNat ((⟨c.2.1.toArray⟩:ByteArray),())) (fun(y11:(((List Int)×Bool)×Unit))=>(if((!y11.1.2)=true)then(some (((false,(([]:List Int),([]:List Int))),false),()))
 else(Option.bind (S.i_natOf ((1:Int),())) (fun(y12:((List Int)×Unit))=>(Option.bind (S.i_nat_cmp (y11.1.1,(y12.1,()))) (fun(y13:(Int×Unit))=>(if((decide (y13.1<=(0:Int)))=true)then(some (((false,(([]:List Int),([]:List Int))),false),()))
 else(Option.bind (S.i_nat_gcd (nd B32 (dv c.1),(y11.1.1,()))) (fun(y14:((List Int)×Unit))=>(Option.bind (S.i_natOf ((1:Int),())) (fun(y15:((List Int)×Unit))=>(Option.bind (S.i_nat_cmp (y14.1,(y15.1,()))) (fun(y16:(Int×Unit))=>(if((y16.1 != (0:Int))=true)then(some (((false,(([]:List Int),([]:List Int))),false),()))
 else(some (((neg,(nd B32 (dv c.1),y11.1.1)),true),()))))))))))))))))))))=some ((rp B32 (rdBody neg c).1,(rdBody neg c).2),()):=by
 have hbody:rdBody neg c=(if c.2.2=true then(if okN c.2.1=true/\1<dv c.2.1/\Nat.gcd (dv c.1) (dv c.2.1)=1 then((neg,(dv c.1,dv c.2.1)),true)else noQ)else((neg,(dv c.1,1)),true)):=if_pos ⟨hok,hn⟩;rw[natOf_one,Option.bind_some,rr_bad,hbody];obtain⟨a,b,f⟩:=c;dsimp only at*;cases f
 ·rfl
 ·rw[if_neg (by decide),if_pos rfl];unfold S.i_readNat;rw[Option.bind_some];dsimp only;cases hb:okN b
  ·have hx:¬((false:Bool)=true/\1<dv b/\Nat.gcd (dv a) (dv b)=1):=fun q=>by cases q.1
   rw[if_neg hx];rfl
  ·have lb:=nd_len200 (B:=B32) (by decide) (okN_lt hb);have la:=nd_len200 (B:=B32) (by decide) (okN_lt hok);have e1:S.i_nat_cmp (nd B32 (dv b),(nd B32 1,()))=some (cmpN (dv b) 1,()):=by
    unfold S.i_nat_cmp;dsimp only;rw[if_pos ⟨canon_nd B32_le _,canon_nd B32_le _,by omega⟩,dval_nd B32_le,dval_nd B32_le]
   have e2:S.i_nat_gcd (nd B32 (dv a),(nd B32 (dv b),()))=some (nd B32 (Nat.gcd (dv a) (dv b)),()):=by
    unfold S.i_nat_gcd;dsimp only;rw[if_pos ⟨canon_nd B32_le _,canon_nd B32_le _,by omega,by omega⟩,dval_nd B32_le,dval_nd B32_le]
   show(Option.bind (S.i_natOf ((1:Int),())) (fun(y12:((List Int)×Unit))=>(Option.bind (S.i_nat_cmp (nd B32 (dv b),(y12.1,()))) (fun(y13:(Int×Unit))=>(if((decide (y13.1<=(0:Int)))=true)then(some ((rp B32 noQ.1,noQ.2),()))
 else(Option.bind (S.i_nat_gcd (nd B32 (dv a),(nd B32 (dv b),()))) (fun(y14:((List Int)×Unit))=>(Option.bind (S.i_natOf ((1:Int),())) (fun(y15:((List Int)×Unit))=>(Option.bind (S.i_nat_cmp (y14.1,(y15.1,()))) (fun(y16:(Int×Unit))=>(if((y16.1 != (0:Int))=true)then(some ((rp B32 noQ.1,noQ.2),()))
 else(some (((neg,(nd B32 (dv a),nd B32 (dv b))),true),()))))))))))))))=_
   rw[natOf_one,Option.bind_some];dsimp only;rw[e1,Option.bind_some];dsimp only
   by_cases h1:1<dv b
   ·have hc:¬(cmpN (dv b) 1<=0):=by
     have:=(cmpN_gt (a:=dv b) (b:=1)).2 h1;omega
    have lg:(nd B32 (Nat.gcd (dv a) (dv b))).length<=200:=Nat.le_trans (nd_shorter' B32_le (Nat.le_of_dvd (by omega) (Nat.gcd_dvd_right _ _))) lb;have e3:S.i_nat_cmp (nd B32 (Nat.gcd (dv a) (dv b)),(nd B32 1,()))=some (cmpN (Nat.gcd (dv a) (dv b)) 1,()):=by
     unfold S.i_nat_cmp;dsimp only;rw[if_pos ⟨canon_nd B32_le _,canon_nd B32_le _,by omega⟩,dval_nd B32_le,dval_nd B32_le]
    rw[if_neg (by simpa using hc),e2,Option.bind_some,Option.bind_some];dsimp only;rw[e3,Option.bind_some];dsimp only
    by_cases hg:Nat.gcd (dv a) (dv b)=1
    ·rw[if_neg (by simpa using cmpN_zero.2 hg),if_pos ⟨rfl,h1,hg⟩];rfl
    ·rw[if_pos (by simpa using fun q=>hg (cmpN_zero.1 q)),if_neg (fun q=>hg q.2.2)]
   ·have hc:cmpN (dv b) 1<=0:=by
     have h2:¬(cmpN (dv b) 1>0):=fun q=>h1 ((cmpN_gt (a:=dv b) (b:=1)).1 q)
     omega
    rw[if_pos (decide_eq_true hc),if_neg (fun q=>h1 q.2.1)]
theorem S.i_readRat_ok (x r) (h:S.i_readRat x=some r):∃k,P.i_readRat k x=some r:=by
 obtain⟨s,u⟩:=x;unfold S.i_readRat at h;dsimp only at h;split at h
 case isFalse=>cases h
 rename_i hsz;refine⟨0,?_⟩;rw[<-h];unfold P.i_readRat;dsimp only;have e0:S.strings_Cut (s,(bs [47],()))=some ((⟨(cutP 47 s.data.toList).1.toArray⟩,(⟨(cutP 47 s.data.toList).2.1.toArray⟩,(cutP 47 s.data.toList).2.2)),()):=by
  unfold S.strings_Cut;dsimp only;rw[if_pos hsz,show(bs [47]).data.toList=[47]from rfl,cut_cutP]
 have e1:∀l:List UInt8,S.strings_CutPrefix (⟨l.toArray⟩,(bs [45],()))=some ((⟨(if l.head? =some 45 then l.tail else l).toArray⟩,decide (l.head? =some 45)),()):=by
  intro l;unfold S.strings_CutPrefix Go.Lib.trimPrefix Go.Lib.hasPrefix;dsimp only;rw[show(bs [45]).data.toList=[45]from rfl];cases l with
  |nil=>rfl
  |cons b r=>
   by_cases hb:b=45
   ·subst hb;simp
   ·have hb':¬(45=b):=fun q=>hb q.symm
    have hp:([45].isPrefixOf (b::r))=false:=by
     show((45:UInt8)==b&&([]:List UInt8).isPrefixOf r)=false;rw[show((45:UInt8)==b)=false from beq_eq_false_iff_ne.2 hb',Bool.false_and]
    have hh:¬((b::r).head? =some 45):=by simpa using hb
    rw[hp,if_neg (by decide),if_neg hh,decide_eq_false hh]
 rw[e0,Option.bind_some];dsimp only;rw[e1,Option.bind_some];dsimp only;generalize s.data.toList=l at*;have hcut:∃(neg:Bool) (c:List UInt8×List UInt8×Bool),decide ((cutP 47 l).1.head? =some 45)=neg/\(if(cutP 47 l).1.head? =some 45 then(cutP 47 l).1.tail else(cutP 47 l).1)=c.1/\(cutP 47 l).2.1=c.2.1/\(cutP 47 l).2.2=c.2.2/\rdRat l=rdBody neg c:=by
  unfold rdRat;cases l with
  |nil=>exact⟨false,cutP 47 [],rfl,rfl,rfl,rfl,rfl⟩
  |cons b r=>
   by_cases hb:b=45
   ·subst hb;have hc:cutP 47 (45::r)=(45::(cutP 47 r).1,(cutP 47 r).2.1,(cutP 47 r).2.2):=by rw[cutP_cons,if_neg (by decide)]
    rw[hc];exact⟨true,cutP 47 r,rfl,rfl,rfl,rfl,rfl⟩
   ·have hh:¬((cutP 47 (b::r)).1.head? =some 45):=by
     rw[cutP_cons];split
     ·simp
     ·simpa using hb
    refine⟨false,cutP 47 (b::r),decide_eq_false hh,if_neg hh,rfl,rfl,?_⟩;rw[if_neg (by simpa using hb)]
 obtain⟨neg,c,h1,h2,h3,h4,h5⟩:=hcut;rw[h1,h2,h3,h4,h5];have e2:S.i_readNat (⟨c.1.toArray⟩,())=some (if okN c.1=true then(nd B32 (dv c.1),true)else([],false),()):=rfl;rw[e2,Option.bind_some];cases hok:okN c.1
 ·have:rdBody neg c=noQ:=by
   unfold rdBody;rw[if_neg (fun q=>by rw[hok]at q;cases q.1)]
  rw[this,<-rr_bad];rfl
 ·rw[if_pos rfl];dsimp only;rw[if_neg (show ¬((!true)=true) by decide)];have hz:(((nd B32 (dv c.1)).length:Int)==0)=decide (dv c.1=0):=by
   have:=canon_nil B32_le (canon_nd B32_le (dv c.1));rw[dval_nd B32_le]at this
   by_cases h0:dv c.1=0
   ·rw[this.2 h0,h0];rfl
   ·have hne:=fun q=>h0 (this.1 q)
    rw[decide_eq_false h0];simpa using hne
  cases neg
  ·rw[if_neg (by decide)];exact rr_rest false c hok (fun q=>by cases q.1)
  ·rw[if_pos rfl,hz]
   by_cases h0:dv c.1=0
   ·have:rdBody true c=noQ:=by
     unfold rdBody;rw[if_neg (fun q=>q.2 ⟨rfl,h0⟩)]
    rw[if_pos (decide_eq_true h0),this,<-rr_bad]
   ·rw[if_neg (by simpa using h0)];exact rr_rest true c hok (fun q=>h0 q.2)
abbrev i_rats.A:=Option ((List RB×Bool)×Unit)
abbrev P.i_rats_b0 (x1:Int×Int×List ByteArray×List RB×Unit) (g2:Int×Int×List ByteArray×List RB×Unit->i_rats.A):i_rats.A:=
 if decide (x1.1<x1.2.1)then if decide (0<=x1.1)then if decide (x1.1<(x1.2.2.1.length:Int))then(S.i_readRat (x1.2.2.1.getD x1.1.toNat (bs []),())).bind fun y3=>if !y3.1.2 then some (([],false),())else if decide (((x1.2.2.2.1.length+(List.length [(y3.1.1.1,y3.1.1.2.1,y3.1.1.2.2)]))*56)<=140737488355328)then g2 (wrap .i64 (x1.1+1),x1.2.1,x1.2.2.1,x1.2.2.2.1++[(y3.1.1.1,y3.1.1.2.1,y3.1.1.2.2)],())else none else none else none else some ((x1.2.2.2.1,true),())
def P.i_rats (k:Nat) (x:List ByteArray×Unit):i_rats.A:=
 if decide ((x.1.length:Int)>300)then some (([],false),())else loopP P.i_rats_b0 k (0,(x.1.length:Int),x.1,[],())
open Classical in
def S.i_rats (x:((List ByteArray)×Unit)):(Option (((List RB)×Bool)×Unit)):=if okT x.1=true then some (((rdAll x.1).1.map (rp B32),(rdAll x.1).2),())else none
theorem i_rats_read (s:ByteArray) (h:s.size<=1000000):S.i_readRat (s,())=some ((rp B32 (rdRat s.data.toList).1,(rdRat s.data.toList).2),()):=by
 unfold S.i_readRat;exact if_pos (by dsimp only;omega)
theorem S.i_rats_ok (x r) (h:S.i_rats x=some r):∃k,P.i_rats k x=some r:=by
 obtain⟨ls,u⟩:=x;unfold S.i_rats at h;dsimp only at h;split at h
 case isFalse=>cases h
 rename_i hc;cases h;refine⟨ls.length+1,?_⟩;unfold P.i_rats rdAll;dsimp only
 by_cases hl:(ls.length:Int)>300
 ·rw[if_pos (decide_eq_true hl),if_neg (show ¬(ls.length<=300/\(ls.all fun s=>(rdRat s.data.toList).2)=true)from fun z=>by omega)];rfl
 rw[if_neg (by simpa using hl)];have key:=loop_up0 (k:=ls.length+1) (b:=P.i_rats_b0) (n:=ls.length) (st:=fun i=>((i:Int),(ls.length:Int),ls,(ls.take i).map (fun s=>rp B32 (rdRat s.data.toList).1),())) (F:=fun i=>some (if((ls.drop i).all fun s=>(rdRat s.data.toList).2)=true then(ls.map (fun s=>rp B32 (rdRat s.data.toList).1),true)else([],false),())) (fun i g hi hg=>by
  unfold P.i_rats_b0;dsimp only at hg ⊢;have e1:(i:Int)<(ls.length:Int):=by omega
  have e2:(0:Int)<=(i:Int):=by omega
  simp only[e1,e2,decide_true,if_true];rw[getD_cast ls i _ hi,i_rats_read _ (okT_get hc hi),Option.bind_some,List.drop_eq_getElem_cons hi,List.all_cons];dsimp only;cases hf:(rdRat ls[i].data.toList).2
  ·rw[if_pos (by rfl),if_neg (by simp)]
  ·rw[if_neg (by simp),wr (by omega) (by omega),Bool.true_and,<-hg];have e3:((List.map (fun s:ByteArray=>rp B32 (rdRat s.data.toList).1) (ls.take i)).length+1)*56<=140737488355328:=by
    rw[List.length_map,List.length_take];omega
   simp only[List.length_cons,List.length_nil,Nat.zero_add];rw[if_pos (decide_eq_true e3),List.take_add_one,List.getElem?_eq_getElem hi,Option.toList_some,List.map_append];rfl) (fun g=>by
  unfold P.i_rats_b0;dsimp only;rw[if_neg (by simp),List.take_length,List.drop_length];rfl) (by omega)
 refine key.trans ?_;rw[List.drop_zero]
 by_cases ha:(ls.all fun s=>(rdRat s.data.toList).2)=true
 ·rw[if_pos ha,if_pos (show ls.length<=300/\(ls.all fun s=>(rdRat s.data.toList).2)=true from⟨by omega,ha⟩),List.map_map];rfl
 ·rw[if_neg ha,if_neg (fun z=>ha z.2)];rfl
abbrev P.i_sum_b1 (x2:Int×Int×List RB×RB×RB×Unit) (g3:Int×Int×List RB×RB×RB×Unit->Option (RB×Unit)):Option (RB×Unit):=
 if decide (x2.1<x2.2.1)then if decide (0<=x2.1)then if decide (x2.1<(x2.2.2.1.length:Int))then(S.i_rat_add ((x2.2.2.2.1.1,x2.2.2.2.1.2.1,x2.2.2.2.1.2.2),((x2.2.2.1.getD x2.1.toNat (false,[],[])).1,(x2.2.2.1.getD x2.1.toNat (false,[],[])).2.1,(x2.2.2.1.getD x2.1.toNat (false,[],[])).2.2),())).bind fun y4=>g3 (wrap .i64 (x2.1+1),x2.2.1,x2.2.2.1,(y4.1.1,y4.1.2.1,y4.1.2.2),(x2.2.2.2.2.1.1,x2.2.2.2.2.1.2.1,x2.2.2.2.2.1.2.2),())else none else none else some ((x2.2.2.2.1.1,x2.2.2.2.1.2.1,x2.2.2.2.1.2.2),())
def P.i_sum (k:Nat) (x:List RB×Unit):Option (RB×Unit):=
 (S.i_whole (0,())).bind fun y0=>loopP P.i_sum_b1 k (0,(x.1.length:Int),x.1,(y0.1.1,y0.1.2.1,y0.1.2.2),(false,[],[]),())
open Classical in
def S.i_sum (x:((List RB)×Unit)):(Option (RB×Unit)):=if goodS B32 x.1 then some (rp B32 (sumQ (x.1.map (rv B32))),())else none
theorem i_sum_add (a b:Q3) (ha:lowb B32 40000000 (rp B32 a)=true) (hb:lowb B32 40000000 (rp B32 b)=true):S.i_rat_add (rp B32 a,(rp B32 b,()))=some (rp B32 (addQ a b),()):=by
 unfold S.i_rat_add;dsimp only;rw[if_pos ⟨ha,hb⟩,rv_rp B32_le,rv_rp B32_le]
theorem S.i_sum_ok (x r) (h:S.i_sum x=some r):∃k,P.i_sum k x=some r:=by
 obtain⟨xs,u⟩:=x;unfold S.i_sum at h;dsimp only at h;split at h
 case isFalse=>cases h
 rename_i hc;obtain⟨qs,rfl,hlen,hq,hg⟩:=hc;cases h;refine⟨qs.length+1,?_⟩;unfold P.i_sum;have hz:S.i_whole (0,())=some (rp B32 zeroQ,()):=by rfl
 dsimp only;rw[hz,Option.bind_some,map_rv B32_le,List.length_map];have key:=loop_up0 (k:=qs.length+1) (b:=P.i_sum_b1) (n:=qs.length) (st:=fun i=>((i:Int),(qs.length:Int),qs.map (rp B32),rp B32 (sumQ (qs.take i)),(false,(([]:List Int),([]:List Int))),())) (F:=fun i=>some (rp B32 (sumQ qs),())) (fun i g hi hg'=>by
  unfold P.i_sum_b1;dsimp only at hg' ⊢;have e1:(i:Int)<(qs.length:Int):=by omega
  have e2:(0:Int)<=(i:Int):=by omega
  have e3:(i:Int)<((qs.map (rp B32)).length:Int):=by rw[List.length_map];omega
  rw[if_pos (decide_eq_true e1),if_pos (decide_eq_true e2),if_pos (decide_eq_true e3),getD_cast (qs.map (rp B32)) i _ (by rw[List.length_map];exact hi),List.getElem_map];have ea:=i_sum_add (sumQ (qs.take i)) qs[i] (lowb_rp9 (by decide) (hg i).1 (hg i).2 (by decide)) (lowb_rp9 (by decide) (hq _ (List.getElem_mem hi)).1 (hq _ (List.getElem_mem hi)).2 (by decide));rw[sumQ_take hi]at ea;show Option.bind (S.i_rat_add (rp B32 (sumQ (qs.take i)),(rp B32 qs[i],()))) _=_;rw[ea,Option.bind_some,wr (by omega) (by omega)];exact hg') (fun g=>by
  unfold P.i_sum_b1;dsimp only;rw[if_neg (by simp),List.take_length]) (by omega)
 exact key
def P.i_isMinus (k:Nat) (x:RB×Unit):Option (Bool×Unit):=
 (S.i_rat_sign ((x.1.1,x.1.2.1,x.1.2.2),())).bind fun y0=>some (decide (y0.1<0),())
def S.i_isMinus (x:(RB×Unit)):(Option (Bool×Unit)):=if lowb B32 40000000 x.1=true then some (x.1.1,())else none
theorem S.i_isMinus_ok (x r) (h:S.i_isMinus x=some r):∃k,P.i_isMinus k x=some r:=by
 obtain⟨x,u⟩:=x;unfold S.i_isMinus at h;dsimp only at h;split at h
 case isFalse=>cases h
 rename_i hc;obtain⟨hr,hl⟩:=lowb_iff.1 hc;obtain⟨n,p,q,rfl,l1,l2⟩:=rok_nd hr;rw[rv_nd B32_le]at hl;cases h;refine⟨0,?_⟩;unfold P.i_isMinus S.i_rat_sign;dsimp only;rw[if_pos (canon_nd B32_le _),dval_nd B32_le,Option.bind_some];dsimp only;have h2:=hl.2.1;dsimp only at h2;unfold sgnQ;cases n
 ·by_cases hp:p=0
  ·rw[if_pos hp];rfl
  ·rw[if_neg hp];rfl
 ·rw[if_neg (h2 rfl)];rfl
abbrev P.slices_IndexFunc__i_rat_i_rat_b0 (x1:Int×Int×Unit×List RB×Unit) (g2:Int×Int×Unit×List RB×Unit->Option (Int×Unit)):Option (Int×Unit):=
 if decide (x1.1<x1.2.1)then if decide (0<=x1.1)then if decide (x1.1<(x1.2.2.2.1.length:Int))then(S.i_isMinus (((x1.2.2.2.1.getD x1.1.toNat (false,[],[])).1,(x1.2.2.2.1.getD x1.1.toNat (false,[],[])).2.1,(x1.2.2.2.1.getD x1.1.toNat (false,[],[])).2.2),())).bind fun y3=>if y3.1 then some (x1.1,())else g2 (wrap .i64 (x1.1+1),x1.2.1,(),x1.2.2.2.1,())else none else none else some ((-1:Int),())
def P.slices_IndexFunc__i_rat_i_rat (k:Nat) (x:List RB×Unit×Unit):Option (Int×Unit):=
 loopP P.slices_IndexFunc__i_rat_i_rat_b0 k (0,(x.1.length:Int),(),x.1,())
open Classical in
def S.slices_IndexFunc__i_rat_i_rat (x:((List RB)×(Unit×Unit))):(Option (Int×Unit)):=if goodL B32 x.1 then some (ixM x.1,())else none
theorem S.slices_IndexFunc__i_rat_i_rat_ok (x r) (h:S.slices_IndexFunc__i_rat_i_rat x=some r):∃k,P.slices_IndexFunc__i_rat_i_rat k x=some r:=by
 obtain⟨xs,u,u'⟩:=x;unfold S.slices_IndexFunc__i_rat_i_rat at h;dsimp only at h;split at h
 case isFalse=>cases h
 rename_i hc;obtain⟨qs,n,rfl,hg⟩:=hc;cases h;have hlen:=good_len hg;refine⟨qs.length+1,?_⟩;unfold P.slices_IndexFunc__i_rat_i_rat;dsimp only;have hm:∀i (hi:i<qs.length),S.i_isMinus (rp B32 qs[i],())=some (qs[i].1,()):=by
  intro i hi;unfold S.i_isMinus;dsimp only;rw[if_pos (good_get (by decide) hg hi)];rfl
 have key:=loop_up0 (k:=qs.length+1) (b:=P.slices_IndexFunc__i_rat_i_rat_b0) (n:=qs.length) (st:=fun i=>((i:Int),(qs.length:Int),(),qs.map (rp B32),())) (F:=fun i=>some (if ixM ((qs.drop i).map (rp B32))<0 then -1 else ixM ((qs.drop i).map (rp B32))+i,())) (fun i g hi hg'=>by
  unfold P.slices_IndexFunc__i_rat_i_rat_b0;dsimp only at hg' ⊢;have e1:(i:Int)<(qs.length:Int):=by omega
  have e2:(0:Int)<=(i:Int):=by omega
  have e3:(i:Int)<((qs.map (rp B32)).length:Int):=by rw[List.length_map];omega
  rw[if_pos (decide_eq_true e1),if_pos (decide_eq_true e2),if_pos (decide_eq_true e3),getD_cast (qs.map (rp B32)) i _ (by rw[List.length_map];exact hi),List.getElem_map];show Option.bind (S.i_isMinus (rp B32 qs[i],())) _=_;rw[hm i hi,Option.bind_some,List.drop_eq_getElem_cons hi,List.map_cons,ixM_cons];dsimp only;rw[show(rp B32 qs[i]).1=qs[i].1 from rfl];cases hf:qs[i].1
  ·simp only[Bool.false_eq_true,if_false];rw[wr (by omega) (by omega)];refine hg'.trans ?_;congr 2;split
   ·rfl
   ·rw[if_neg (by omega)];omega
  ·simp) (fun g=>by
  unfold P.slices_IndexFunc__i_rat_i_rat_b0;dsimp only;rw[if_neg (by simp),List.drop_length];rfl) (by omega)
 rw[List.length_map];refine key.trans ?_;rw[List.drop_zero];congr 2;have hr: -1<=ixM (qs.map (rp B32)):=by
  generalize qs.map (rp B32)=zs
  induction zs with
  |nil=>decide
  |cons z zs ih=>
   rw[ixM_cons];split
   ·omega
   ·split<;>omega
 split<;>omega
def P.slices_ContainsFunc__i_rat_i_rat (k:Nat) (x:List RB×Unit×Unit):Option (Bool×Unit):=
 (S.slices_IndexFunc__i_rat_i_rat (x.1,(),())).bind fun y0=>some (decide (y0.1>=0),())
open Classical in
def S.slices_ContainsFunc__i_rat_i_rat (x:((List RB)×(Unit×Unit))):(Option (Bool×Unit)):=if goodL B32 x.1 then some (x.1.any fun r=>r.1,())else none
theorem S.slices_ContainsFunc__i_rat_i_rat_ok (x r) (h:S.slices_ContainsFunc__i_rat_i_rat x=some r):∃k,P.slices_ContainsFunc__i_rat_i_rat k x=some r:=by
 obtain⟨xs,u,u'⟩:=x;unfold S.slices_ContainsFunc__i_rat_i_rat at h;dsimp only at h;split at h
 case isFalse=>cases h
 rename_i hc;cases h;refine⟨0,?_⟩;unfold P.slices_ContainsFunc__i_rat_i_rat S.slices_IndexFunc__i_rat_i_rat;dsimp only;rw[if_pos hc,Option.bind_some,<-ixM_any]
def P.i_notPlus (k:Nat) (x:RB×Unit):Option (Bool×Unit):=
 (S.i_rat_sign ((x.1.1,x.1.2.1,x.1.2.2),())).bind fun y0=>some (decide (y0.1<=0),())
def S.i_notPlus (x:(RB×Unit)):(Option (Bool×Unit)):=if rok B32 40000000 x.1=true then some (!posQ (rv B32 x.1),())else none
theorem S.i_notPlus_ok (x r) (h:S.i_notPlus x=some r):∃k,P.i_notPlus k x=some r:=by
 obtain⟨y,u⟩:=x;unfold S.i_notPlus at h;dsimp only at h;split at h
 case isFalse=>cases h
 rename_i hc;cases h;obtain⟨n,p,q,rfl,_,_⟩:=rok_nd hc;refine⟨0,?_⟩;unfold P.i_notPlus;dsimp only;have hs:S.i_rat_sign ((n,(nd B32 p,nd B32 q)),())=some (sgnQ n p,()):=by
  unfold S.i_rat_sign;dsimp only;rw[if_pos (canon_nd B32_le _),dval_nd B32_le]
 rw[hs,Option.bind_some,rv_nd B32_le];dsimp only;rw[<-sgnQ_npos]
end Go.Cm
end
