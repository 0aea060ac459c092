import Derived.Test.YtdpljomfkoojnaaGreatDoorCmZI
import Derived.Test.YtdpljomfkoojnaaGreatDoorCmXz
import Derived.Lib.Bits
import Derived.Lib.IndexMore
import Derived.Lib.ParseIntB
import Derived.Lib.Repeat
import Derived.Lib.Strings
set_option linter.unusedVariables false
set_option maxRecDepth 100000
noncomputable section
namespace Go.Cm
abbrev RB:=Bool×((List Int)×(List Int))
open IntKind (wrap)
abbrev P.l_szStringS_b0 (x1:Int×List ByteArray×Int×Unit) (g2:Int×List ByteArray×Int×Unit->Option (Int×Unit)):Option (Int×Unit):=
 if decide (x1.1<(x1.2.1.length:Int))then if decide (0<=x1.1)then if decide (x1.1<(x1.2.1.length:Int))then if decide ((wrap .i64 (x1.2.2.1 - (ByteArray.size (x1.2.1.getD x1.1.toNat (bs [])):Int)))<0)then some ((-1:Int),())else g2 (wrap .i64 (x1.1+1),x1.2.1,wrap .i64 (x1.2.2.1 - (ByteArray.size (x1.2.1.getD x1.1.toNat (bs [])):Int)),())else none else none else some (x1.2.2.1,())
def P.l_szStringS (k:Nat) (x:List ByteArray×Int×Unit):Option (Int×Unit):=
 if decide ((wrap .i64 (x.2.1 - (x.1.length:Int)))<0)then some ((-1:Int),())else loopP P.l_szStringS_b0 k (0,x.1,wrap .i64 (x.2.1 - (x.1.length:Int)),())
def szGo:List ByteArray->Int->Int
 | [],l=>l
 |x::xs,l=>if l - (x.size:Int)<0 then -1 else szGo xs (l - (x.size:Int))
def szS (xs:List ByteArray) (left:Int):Int:=if left - (xs.length:Int)<0 then -1 else szGo xs (left - (xs.length:Int))
theorem szGo_le:∀(xs:List ByteArray) (l:Int),0<=l->szGo xs l<=l/\ -1<=szGo xs l
 | [],l,h=>by simp [szGo];omega
 |x::xs,l,h=>by
  simp only[szGo];split
  ·omega
  ·have:=szGo_le xs (l - (x.size:Int)) (by omega);omega
theorem szS_le (xs:List ByteArray) (l:Int) (h:0<=l):szS xs l<=l/\ -1<=szS xs l:=by
 unfold szS;split
 ·omega
 ·have:=szGo_le xs (l - (xs.length:Int)) (by omega);omega
theorem szS_len (xs:List ByteArray) (l:Int) (h:0<=szS xs l):(xs.length:Int)<=l:=by
 unfold szS at h;split at h<;>omega
abbrev okTexts (xs:List ByteArray):Prop:=xs.length<=9223372036854775807/\∀x∈xs,x.size<=9223372036854775807
open Classical in
def S.l_szStringS (x:((List ByteArray)×(Int×Unit))):(Option (Int×Unit)):=if okTexts x.1/\0<=x.2.1/\x.2.1<=1000000 then some (szS x.1 x.2.1,())else none
theorem S.l_szStringS_ok (x r) (h:S.l_szStringS x=some r):∃k,P.l_szStringS k x=some r:=by
 obtain⟨xs,left,u⟩:=x;unfold S.l_szStringS at h;split at h
 case isFalse=>cases h
 rename_i hc;obtain⟨⟨hl,hs⟩,h0,h1⟩:=hc;cases h;refine⟨xs.length+1,?_⟩;unfold P.l_szStringS szS;dsimp only at hl hs h0 h1 ⊢;rw[wr (by omega) (by omega)]
 by_cases hn:left - (xs.length:Int)<0
 ·simp [hn]
 ·simp only[hn,decide_false,Bool.false_eq_true,if_false];have key:∀m i k l,i+m=xs.length->m<k->0<=l->l<=1000000->loopP P.l_szStringS_b0 k ((i:Int),xs,l,())=some (szGo (xs.drop i) l,()):=by
   intro m
   induction m with
   |zero=>
    intro i k l hi hk h0 h1;cases k with
    |zero=>omega
    |succ k=>
     have:i=xs.length:=by omega
     subst this;simp [loopP_succ,P.l_szStringS_b0,szGo]
   |succ m ih=>
    intro i k l hi hk h0 h1;cases k with
    |zero=>omega
    |succ k=>
     have hi':i<xs.length:=by omega
     have hsz:=hs xs[i] (List.getElem_mem hi');rw[loopP_succ];unfold P.l_szStringS_b0;rw[List.drop_eq_getElem_cons hi'];dsimp only;rw[getD_cast xs i _ hi',wr (by omega) (by omega),wr (x:=(i:Int)+1) (by omega) (by omega)];have e1:(i:Int)<(xs.length:Int):=by omega
     have e2:(0:Int)<=(i:Int):=by omega
     simp only[e1,e2,decide_true,if_true,szGo]
     by_cases hq:l - (xs[i].size:Int)<0
     ·simp [hq]
     ·simp only[hq,decide_false,Bool.false_eq_true,if_false];have:=ih (i+1) k (l - (xs[i].size:Int)) (by omega) (by omega) (by omega) (by omega);rw[<-this];rfl
  have:=key xs.length 0 (xs.length+1) (left - (xs.length:Int)) (by omega) (by omega) (by omega) (by omega);rw[List.drop_zero]at this;exact this
abbrev P.l_szStringSS_b0 (x1:Int×List (List ByteArray)×Int×Unit) (g2:Int×List (List ByteArray)×Int×Unit->Option (Int×Unit)):Option (Int×Unit):=
 if decide (x1.1<(x1.2.1.length:Int))then if decide (0<=x1.1)then if decide (x1.1<(x1.2.1.length:Int))then(S.l_szStringS (x1.2.1.getD x1.1.toNat [],x1.2.2.1,())).bind fun y3=>if decide (y3.1<0)then some ((-1:Int),())else g2 (wrap .i64 (x1.1+1),x1.2.1,y3.1,())else none else none else some (x1.2.2.1,())
def P.l_szStringSS (k:Nat) (x:List (List ByteArray)×Int×Unit):Option (Int×Unit):=
 if decide ((wrap .i64 (x.2.1 - (x.1.length:Int)))<0)then some ((-1:Int),())else loopP P.l_szStringSS_b0 k (0,x.1,wrap .i64 (x.2.1 - (x.1.length:Int)),())
def sz2Go:List (List ByteArray)->Int->Int
 | [],l=>l
 |x::xs,l=>if szS x l<0 then -1 else sz2Go xs (szS x l)
def sz2 (xs:List (List ByteArray)) (left:Int):Int:=if left - (xs.length:Int)<0 then -1 else sz2Go xs (left - (xs.length:Int))
theorem sz2Go_le:∀(xs:List (List ByteArray)) (l:Int),0<=l->sz2Go xs l<=l/\ -1<=sz2Go xs l/\(0<=sz2Go xs l->∀x∈xs,(x.length:Int)<=l)
 | [],l,h=>by simp [sz2Go];omega
 |x::xs,l,h=>by
  have a:=szS_le x l h;simp only[sz2Go];split
  ·exact⟨by omega,by omega,fun h0=>by omega⟩
  ·obtain⟨b1,b2,b3⟩:=sz2Go_le xs (szS x l) (by omega);refine⟨by omega,b2,fun h0 y hy=> ?_⟩;rcases List.mem_cons.1 hy with rfl|hy
   ·exact szS_len y l (by omega)
   ·have:=b3 h0 y hy;omega
theorem sz2_le (xs:List (List ByteArray)) (l:Int) (h:0<=l):sz2 xs l<=l/\ -1<=sz2 xs l/\(0<=sz2 xs l->(xs.length:Int)<=l/\∀x∈xs,(x.length:Int)<=l):=by
 unfold sz2;split
 ·exact⟨by omega,by omega,fun h0=>by omega⟩
 ·obtain⟨a,b,c⟩:=sz2Go_le xs (l - (xs.length:Int)) (by omega);refine⟨by omega,b,fun h0=>⟨by omega,fun x hx=> ?_⟩⟩;have:=c h0 x hx;omega
abbrev okTT (xs:List (List ByteArray)):Prop:=xs.length<=9223372036854775807/\∀x∈xs,okTexts x
open Classical in
def S.l_szStringSS (x:((List (List ByteArray))×(Int×Unit))):(Option (Int×Unit)):=if okTT x.1/\x.2.1<=1000000/\(0<=x.2.1\/ -1000000000000000<=x.2.1/\x.1.length<=1000000000000000)then some (sz2 x.1 x.2.1,())else none
theorem S.l_szStringSS_ok (x r) (h:S.l_szStringSS x=some r):∃k,P.l_szStringSS k x=some r:=by
 obtain⟨xs,left,u⟩:=x;unfold S.l_szStringSS at h;split at h
 case isFalse=>cases h
 rename_i hc;obtain⟨⟨hl,hs⟩,h1,h0⟩:=hc;cases h;refine⟨xs.length+1,?_⟩;unfold P.l_szStringSS sz2;dsimp only at hl hs h0 h1 ⊢;rw[wr (by omega) (by omega)]
 by_cases hn:left - (xs.length:Int)<0
 ·simp [hn]
 ·simp only[hn,decide_false,Bool.false_eq_true,if_false];have key:∀m i k l,i+m=xs.length->m<k->0<=l->l<=1000000->loopP P.l_szStringSS_b0 k ((i:Int),xs,l,())=some (sz2Go (xs.drop i) l,()):=by
   intro m
   induction m with
   |zero=>
    intro i k l hi hk h0 h1;cases k with
    |zero=>omega
    |succ k=>
     have:i=xs.length:=by omega
     subst this;simp [loopP_succ,P.l_szStringSS_b0,sz2Go]
   |succ m ih=>
    intro i k l hi hk h0 h1;cases k with
    |zero=>omega
    |succ k=>
     have hi':i<xs.length:=by omega
     have hsz:=hs xs[i] (List.getElem_mem hi');rw[loopP_succ];unfold P.l_szStringSS_b0;rw[List.drop_eq_getElem_cons hi'];dsimp only;have e1:(i:Int)<(xs.length:Int):=by omega
     have e2:(0:Int)<=(i:Int):=by omega
     have a:=szS_le xs[i] l h0;have es:S.l_szStringS (xs[i],l,())=some (szS xs[i] l,()):=by
      unfold S.l_szStringS;rw[if_pos ⟨hsz,h0,h1⟩]
     rw[getD_cast xs i _ hi',wr (x:=(i:Int)+1) (by omega) (by omega),es];simp only[e1,e2,decide_true,if_true,sz2Go,Option.bind_some]
     by_cases hq:szS xs[i] l<0
     ·simp [hq]
     ·simp only[hq,decide_false,Bool.false_eq_true,if_false];have:=ih (i+1) k (szS xs[i] l) (by omega) (by omega) (by omega) (by omega);rw[<-this];rfl
  have:=key xs.length 0 (xs.length+1) (left - (xs.length:Int)) (by omega) (by omega) (by omega) (by omega);rw[List.drop_zero]at this;exact this
def P.l_szChain (k:Nat) (x:List (List ByteArray)×Int×Unit):Option (Int×Unit):=
 (S.l_szStringSS (x.1,x.2.1,())).bind fun y0=>if decide (y0.1<0)then some ((-1:Int),())else some (y0.1,())
def S.l_szChain (x:((List (List ByteArray))×(Int×Unit))):(Option (Int×Unit)):=P.l_szChain 0 x
theorem S.l_szChain_ok (x r) (h:S.l_szChain x=some r):∃k,P.l_szChain k x=some r:=⟨0,h⟩
def P.l_roomBehind (k:Nat) (x:Int×Unit):Option (Int×Unit):=
 if(Int.tmod x.1 6)==5 then some (0,())else if(Int.tmod x.1 3)==0 then some (1,())else some (x.1,())
def S.l_roomBehind (x:(Int×Unit)):(Option (Int×Unit)):=P.l_roomBehind 0 x
theorem S.l_roomBehind_ok (x r) (h:S.l_roomBehind x=some r):∃k,P.l_roomBehind k x=some r:=⟨0,h⟩
abbrev l_toInt64So.A:=Option ((List Int×Nat)×Unit)
abbrev l_toInt64So.B:=Int×List Int×List Int×Unit
abbrev P.l_toInt64So_b4 (x5:l_toInt64So.B) (g6:l_toInt64So.B->l_toInt64So.A):l_toInt64So.A:=
 (fun(a:Int) (b c:List Int)=>if decide (a<(b.length:Int))then if decide (0<=a)then if decide (a<(b.length:Int))then g6 (wrap .i64 (a+1),b.set (0+a.toNat) (-7000000000000000101:Int),c,())else none else none else if decide (0<=(c.length:Int))then if decide (((c.length:Int)+0)<=(b.length:Int))then if decide (0<=(c.length:Int))then some ((b,(Int.toNat (c.length:Int)) - 0),())else none else none else none) x5.1 x5.2.1 x5.2.2.1
abbrev P.l_toInt64So_b1 (k:Nat) (x2:l_toInt64So.B) (g3:l_toInt64So.B->l_toInt64So.A):l_toInt64So.A:=
 (fun(a:Int) (b c:List Int)=>if decide (a<(b.length:Int))then if decide (0<=a)then if decide (a<(b.length:Int))then if decide (0<=a)then if decide (a<(c.length:Int))then g3 (wrap .i64 (a+1),b,c.set (0+a.toNat) (b.getD a.toNat 0),())else none else none else none else none else loopP P.l_toInt64So_b4 k ((b.length:Int),c,b,())) x2.1 x2.2.1 x2.2.2.1
def P.l_toInt64So (k:Nat) (x:List Int×Bool×Unit):l_toInt64So.A:=
 if x.2.1 then if(x.1.length:Int)==0 then some ((([]:List Int),0),())else(S.l_roomBehind ((x.1.length:Int),())).bind fun y0=>if decide (0<=(wrap .i64 ((x.1.length:Int)+y0.1)))then if decide ((wrap .i64 ((x.1.length:Int)+y0.1))<=(wrap .i64 ((x.1.length:Int)+y0.1)))then if decide (((wrap .i64 ((x.1.length:Int)+y0.1))*8)<=281474976710656)then loopP (P.l_toInt64So_b1 k) k (0,x.1,List.replicate (Int.toNat (wrap .i64 ((x.1.length:Int)+y0.1))) 0,())else none else none else none else(S.l_roomBehind ((x.1.length:Int),())).bind fun y7=>if decide (0<=(wrap .i64 ((x.1.length:Int)+y7.1)))then if decide ((wrap .i64 ((x.1.length:Int)+y7.1))<=(wrap .i64 ((x.1.length:Int)+y7.1)))then if decide (((wrap .i64 ((x.1.length:Int)+y7.1))*8)<=281474976710656)then loopP (P.l_toInt64So_b1 k) k (0,x.1,List.replicate (Int.toNat (wrap .i64 ((x.1.length:Int)+y7.1))) 0,())else none else none else none
def fillJ:Int:= -7000000000000000101
def S.l_toInt64So (x:((List Int)×(Bool×Unit))):(Option (((List Int)×Nat)×Unit)):=if x.1.length<=1000000 then some (tos fillJ x.2.1 x.1,())else none
theorem toInt64So_b4 (xs:List Int) (m n k:Nat) (h:n=xs.length) (hl:n<=1000000) (hm:m<=n+1) (hk:m<k):
  loopP P.l_toInt64So_b4 k ((n:Int),xs++List.replicate m 0,xs,())=some ((xs++List.replicate m fillJ,n),()):=by
 have key:=loop_up0 (b:=P.l_toInt64So_b4) (n:=m) (st:=fun i=>(((n+i:Nat):Int),(xs++List.replicate i fillJ)++List.replicate (m - i) 0,xs,())) (F:=fun i=>some ((xs++List.replicate m fillJ,n),())) (fun i g hi hg=>by
  unfold P.l_toInt64So_b4;dsimp only at hg ⊢;have hlen:((xs++List.replicate i fillJ)++List.replicate (m - i) 0).length=n+m:=by simp;omega
  simp only[hlen];have e1:((n+i:Nat):Int)<((n+m:Nat):Int):=by omega
  have e2:(0:Int)<=((n+i:Nat):Int):=by omega
  simp only[e1,e2,decide_true,if_true];rw[wr (by omega) (by omega),<-hg];congr 1;have e3:m - i=(m - (i+1))+1:=by omega
  have e4:(0+((n+i:Nat):Int).toNat)=(xs++List.replicate i fillJ).length:=by rw[List.length_append,List.length_replicate];omega
  rw[e3,e4,set_fill];simp only[List.replicate_succ',<-List.append_assoc,fillJ];rfl) (fun g=>by
  unfold P.l_toInt64So_b4;dsimp only;have hlen:((xs++List.replicate m fillJ)++List.replicate (m - m) 0).length=n+m:=by simp;omega
  simp only[hlen];have e1:¬((n+m:Nat):Int)<((n+m:Nat):Int):=by omega
  have e2:(0:Int)<=(xs.length:Int):=by omega
  have e3:(xs.length:Int)+0<=((n+m:Nat):Int):=by omega
  simp only[e1,e2,e3,decide_true,decide_false,if_true,Bool.false_eq_true,if_false];simp [h]) hk
 simpa using key
theorem toInt64So_b1 (k0:Nat) (xs:List Int) (m k:Nat) (hl:xs.length<=1000000) (hm:m<=xs.length+1) (hk0:m<k0) (hk:xs.length<k):
  loopP (P.l_toInt64So_b1 k0) k ((0:Int),xs,List.replicate (xs.length+m) 0,())=some ((xs++List.replicate m fillJ,xs.length),()):=by
 have key:=loop_up0 (b:=P.l_toInt64So_b1 k0) (n:=xs.length) (st:=fun i=>((i:Int),xs,xs.take i++List.replicate (xs.length - i+m) 0,())) (F:=fun i=>some ((xs++List.replicate m fillJ,xs.length),())) (fun i g hi hg=>by
  unfold P.l_toInt64So_b1;dsimp only at hg ⊢;have hlen:(xs.take i++List.replicate (xs.length - i+m) 0).length=xs.length+m:=by simp;omega
  simp only[hlen];have e1:(i:Int)<(xs.length:Int):=by omega
  have e1':(i:Int)<((xs.length+m:Nat):Int):=by omega
  have e2:(0:Int)<=(i:Int):=by omega
  simp only[e1,e1',e2,decide_true,if_true];rw[wr (by omega) (by omega),getD_cast xs i _ hi,<-hg];congr 1;have e3:xs.length - i+m=(xs.length - (i+1)+m)+1:=by omega
  have e4:(0+(i:Int).toNat)=(xs.take i).length:=by simp;omega
  rw[e3,e4,set_fill];simp) (fun g=>by
  unfold P.l_toInt64So_b1;dsimp only;have e1:¬(xs.length:Int)<(xs.length:Int):=by omega
  simp only[e1,decide_false,Bool.false_eq_true,if_false];have:=toInt64So_b4 xs m xs.length k0 rfl hl hm hk0;simpa using this) hk
 simpa using key
theorem S.l_toInt64So_ok (x r) (h:S.l_toInt64So x=some r):∃k,P.l_toInt64So k x=some r:=by
 obtain⟨xs,bare,u⟩:=x;unfold S.l_toInt64So at h;dsimp only at h;split at h
 case isFalse=>cases h
 rename_i hl;cases h;refine⟨xs.length+2,?_⟩;have hr:=rb_le xs.length;have go:(Option.bind (S.l_roomBehind (((List.length xs):Int),())) (fun(y0:(Int×Unit))=>(if((decide ((0:Int)<=(wrap .i64 (((List.length xs):Int)+y0.1))))=true)then(if((decide ((wrap .i64 (((List.length xs):Int)+y0.1))<=(wrap .i64 (((List.length xs):Int)+y0.1))))=true)then(if((decide (((wrap .i64 (((List.length xs):Int)+y0.1))*(8:Int))<=(281474976710656:Int)))=true)then(loopP (X:=(Int×((List Int)×((List Int)×Unit)))) (R:=(((List Int)×Nat)×Unit)) (P.l_toInt64So_b1 (xs.length+2)) (xs.length+2) ((0:Int),(xs,((List.replicate (Int.toNat (wrap .i64 (((List.length xs):Int)+y0.1))) (0:Int)),()))))
 else none)
 else none)
 else none)))=some ((xs++List.replicate (rb xs.length).toNat fillJ,xs.length),()):=by
  have e0:S.l_roomBehind ((xs.length:Int),())=some (rb xs.length,()):=by
   unfold S.l_roomBehind P.l_roomBehind rb;simp only[beq_iff_eq];split
   ·rfl
   ·split<;>rfl
  rw[e0,Option.bind_some];dsimp only;rw[wr (by omega) (by omega)];have e1:(0:Int)<=(xs.length:Int)+rb xs.length:=by omega
  have e2:(xs.length:Int)+rb xs.length<=(xs.length:Int)+rb xs.length:=by omega
  have e3:((xs.length:Int)+rb xs.length)*8<=281474976710656:=by omega
  simp only[e1,e2,e3,decide_true,if_true];have e4:((xs.length:Int)+rb xs.length).toNat=xs.length+(rb xs.length).toNat:=by omega
  rw[e4];exact toInt64So_b1 _ xs _ _ hl (by omega) (by omega) (by omega)
 unfold P.l_toInt64So tos;dsimp only;cases bare with
 |true=>
  simp only[if_true]
  by_cases hx:xs=[]
  ·subst hx;rfl
  ·have hx':¬((((xs.length:Nat):Int)==0)=true):=by
    simp [hx]
   rw[if_neg hx',if_neg (by simp [hx])];exact go
 |false=>
  simp only[Bool.false_eq_true,if_false,false_and];exact go
abbrev P.l_eqInt64S_b0 (x1:Int×List Int×List Int×Unit) (g2:Int×List Int×List Int×Unit->Option (Bool×Unit)):Option (Bool×Unit):=
 if decide (x1.1<(x1.2.1.length:Int))then if decide (0<=x1.1)then if decide (x1.1<(x1.2.1.length:Int))then if decide (0<=x1.1)then if decide (x1.1<(x1.2.2.1.length:Int))then if(x1.2.1.getD x1.1.toNat 0) != (x1.2.2.1.getD x1.1.toNat 0)then some (false,())else g2 (wrap .i64 (x1.1+1),x1.2.1,x1.2.2.1,())else none else none else none else none else some (true,())
def P.l_eqInt64S (k:Nat) (x:List Int×List Int×Unit):Option (Bool×Unit):=
 if(x.1.length:Int) != (x.2.1.length:Int)then some (false,())else loopP P.l_eqInt64S_b0 k (0,x.1,x.2.1,())
theorem eqI_len {xs ys:List Int} (h:xs.length≠ys.length):(xs==ys)=false:=by
 rw[beq_eq_false_iff_ne];intro e;exact h (congrArg List.length e)
theorem eqI_drop {xs ys:List Int} {i:Nat} (hx:i<xs.length) (hy:i<ys.length):(xs.drop i==ys.drop i)=((xs[i]==ys[i])&&(xs.drop (i+1)==ys.drop (i+1))):=by
 rw[List.drop_eq_getElem_cons hx,List.drop_eq_getElem_cons hy];rfl
def S.l_eqInt64S (x:((List Int)×((List Int)×Unit))):(Option (Bool×Unit)):=if x.1.length<=9223372036854775807 then some ((x.1==x.2.1),())else none
theorem S.l_eqInt64S_ok (x r) (h:S.l_eqInt64S x=some r):∃k,P.l_eqInt64S k x=some r:=by
 obtain⟨xs,ys,u⟩:=x;unfold S.l_eqInt64S at h;dsimp only at h;split at h
 case isFalse=>cases h
 rename_i hc;cases h;refine⟨xs.length+1,?_⟩;unfold P.l_eqInt64S;dsimp only
 by_cases hl:xs.length=ys.length
 ·have e0:((xs.length:Int) != (ys.length:Int))=false:=by simp [hl]
  rw[if_neg (by rw[e0];simp)];have:=loop_up0 (b:=P.l_eqInt64S_b0) (n:=xs.length) (st:=fun i=>((i:Int),xs,ys,())) (F:=fun i=>some (((xs.drop i)==(ys.drop i)),())) (fun i g hi hg=>by
   have hy:i<ys.length:=by omega
   unfold P.l_eqInt64S_b0;dsimp only at hg ⊢;have e1:(i:Int)<(xs.length:Int):=by omega
   have e1':(i:Int)<(ys.length:Int):=by omega
   have e2:(0:Int)<=(i:Int):=by omega
   simp only[e1,e1',e2,decide_true,if_true];rw[getD_cast xs i _ hi,getD_cast ys i _ hy,wr (x:=(i:Int)+1) (by omega) (by omega),eqI_drop hi hy]
   by_cases hq:(xs[i]==ys[i])=true
   ·simp only[bne,hq,Bool.not_true,Bool.false_eq_true,if_false,Bool.true_and];exact hg
   ·have hq':(xs[i]==ys[i])=false:=by simpa using hq
    simp only[bne,hq',Bool.not_false,if_true,Bool.false_and]) (fun g=>by
   unfold P.l_eqInt64S_b0;have e1:¬((xs.length:Int)<(xs.length:Int)):=by omega
   simp only[e1,decide_false,Bool.false_eq_true,if_false];rw[List.drop_length,hl,List.drop_length];rfl) (Nat.lt_succ_self _)
  simpa using this
 ·rw[if_pos (by simp;omega),eqI_len hl]
def P.l_intactInt64S (k:Nat) (x:(List Int×Nat)×(List Int×Nat)×Unit):Option (Bool×Unit):=
 (S.l_roomBehind (((x.2.1.2:Nat):Int),())).bind fun y0=>if((x.1.2:Nat):Int)==((x.2.1.2:Nat):Int)then if decide (0<=(wrap .i64 (((x.2.1.2:Nat):Int)+y0.1)))then if decide ((wrap .i64 (((x.2.1.2:Nat):Int)+y0.1))<=(x.1.1.length:Int))then if decide (0<=(wrap .i64 (((x.2.1.2:Nat):Int)+y0.1)))then if decide (0<=(wrap .i64 (((x.2.1.2:Nat):Int)+y0.1)))then if decide ((wrap .i64 (((x.2.1.2:Nat):Int)+y0.1))<=(x.2.1.1.length:Int))then if decide (0<=(wrap .i64 (((x.2.1.2:Nat):Int)+y0.1)))then(S.l_eqInt64S (seen x.1.1 0 ((Int.toNat (wrap .i64 (((x.2.1.2:Nat):Int)+y0.1))) - 0),seen x.2.1.1 0 ((Int.toNat (wrap .i64 (((x.2.1.2:Nat):Int)+y0.1))) - 0),())).bind fun y1=>some (y1.1,())else none else none else none else none else none else none else some (false,())
def S.l_intactInt64S (x:(((List Int)×Nat)×(((List Int)×Nat)×Unit))):(Option (Bool×Unit)):=P.l_intactInt64S 0 x
theorem S.l_intactInt64S_ok (x r) (h:S.l_intactInt64S x=some r):∃k,P.l_intactInt64S k x=some r:=⟨0,h⟩
theorem roomI_eq (n:Nat):S.l_roomBehind ((n:Int),())=some (rb n,()):=by
 unfold S.l_roomBehind P.l_roomBehind rb;simp only[beq_iff_eq];split
 ·rfl
 ·split<;>rfl
theorem tosI_false (xs:List Int) (f:Int):tos f false xs=(xs++List.replicate (rb xs.length).toNat f,xs.length):=by simp [tos]
theorem intactInt64S_eq (xs:List Int) (f:Int) (h:xs.length<=1000000):S.l_intactInt64S (((tos f false xs).1,(tos f false xs).2),((tos f false xs).1,(tos f false xs).2),())=some (true,()):=by
 rw[tosI_false];have hr:=rb_le xs.length;unfold S.l_intactInt64S P.l_intactInt64S;dsimp only;rw[roomI_eq,Option.bind_some,wr (by omega) (by omega)];have hl:((xs++List.replicate (rb xs.length).toNat f).length:Int)=(xs.length:Int)+rb xs.length:=by
  rw[List.length_append,List.length_replicate];omega
 have e1:(0:Int)<=(xs.length:Int)+rb xs.length:=by omega
 have e2:(xs.length:Int)+rb xs.length<=(xs.length:Int)+rb xs.length:=by omega
 simp only[hl,e1,e2,decide_true,if_true,beq_self_eq_true];have e3:∀l:List Int,l.length<=9223372036854775807->S.l_eqInt64S (l,l,())=some (true,()):=fun l hl=>by
  unfold S.l_eqInt64S;dsimp only;rw[if_pos hl,beq_self_eq_true]
 rw[e3 _ (by simp [seen];omega),Option.bind_some]
abbrev P.l_markInt64S_b0 (x1:Int×List Int×Int×Unit) (g2:Int×List Int×Int×Unit->Option (Int×List Int×Unit)):Option (Int×List Int×Unit):=
 if decide (x1.1<(x1.2.1.length:Int))then if decide (0<=x1.1)then if decide (x1.1<(x1.2.1.length:Int))then g2 (wrap .i64 (x1.1+1),x1.2.1.set (0+x1.1.toNat) x1.2.2.1,wrap .i64 (x1.2.2.1+1),())else none else none else some (x1.2.2.1,x1.2.1,())
def P.l_markInt64S (k:Nat) (x:List Int×Int×Unit):Option (Int×List Int×Unit):=
 loopP P.l_markInt64S_b0 k (0,x.1,x.2.1,())
def rampQ (q:Int) (n:Nat):List Int:=(List.range n).map fun i:Nat=>q+(i:Int)
theorem rampQ_len (q:Int) (n:Nat):(rampQ q n).length=n:=by simp [rampQ]
theorem rampQ_succ (q:Int) (n:Nat):rampQ q (n+1)=rampQ q n++[q+(n:Int)]:=by simp [rampQ,List.range_succ]
def S.l_markInt64S (x:((List Int)×(Int×Unit))):(Option (Int×((List Int)×Unit))):=if(0<=x.2.1/\x.2.1<=100000000)/\x.1.length<=10000000 then some (x.2.1+(x.1.length:Int),(rampQ x.2.1 x.1.length,()))else none
theorem S.l_markInt64S_ok (x r) (h:S.l_markInt64S x=some r):∃k,P.l_markInt64S k x=some r:=by
 obtain⟨xs,c,u⟩:=x;unfold S.l_markInt64S at h;dsimp only at h;split at h
 case isFalse=>cases h
 rename_i hs;obtain⟨⟨h0,h1⟩,hl⟩:=hs;cases h;refine⟨xs.length+1,?_⟩;unfold P.l_markInt64S;dsimp only;have key:=loop_up0 (k:=xs.length+1) (b:=P.l_markInt64S_b0) (n:=xs.length) (st:=fun i=>((i:Int),rampQ c i++xs.drop i,c+(i:Int),())) (F:=fun i=>some (c+(xs.length:Int),(rampQ c xs.length,()))) (fun i g hi hg=>by
  unfold P.l_markInt64S_b0;dsimp only at hg ⊢;have hlen:(rampQ c i++xs.drop i).length=xs.length:=by rw[List.length_append,rampQ_len,List.length_drop];omega
  rw[hlen];have e1:(i:Int)<(xs.length:Int):=by omega
  have e2:(0:Int)<=(i:Int):=by omega
  simp only[e1,e2,decide_true,if_true];rw[wr (by omega) (by omega),wr (by omega) (by omega),<-hg];have e3:(rampQ c i++xs.drop i).set (0+(i:Int).toNat) (c+(i:Int))=rampQ c (i+1)++xs.drop (i+1):=by
   rw[List.drop_eq_getElem_cons hi,rampQ_succ];have:0+(i:Int).toNat=(rampQ c i).length:=by rw[rampQ_len];omega
   rw[this,List.set_append_right _ _ (Nat.le_refl _),Nat.sub_self,List.append_assoc];rfl
  rw[e3];congr 1
  all_goals (simp only[Prod.mk.injEq];exact⟨by omega,trivial,by omega,trivial⟩)) (fun g=>by
  unfold P.l_markInt64S_b0;dsimp only;have hlen:(rampQ c xs.length++xs.drop xs.length).length=xs.length:=by rw[List.length_append,rampQ_len,List.length_drop];omega
  rw[hlen,if_neg (by simp)];simp) (by omega)
 have e:c+((0:Nat):Int)=c:=by omega
 rw[e]at key;exact key
abbrev P.l_eqStringS_b0 (x1:Int×List ByteArray×List ByteArray×Unit) (g2:Int×List ByteArray×List ByteArray×Unit->Option (Bool×Unit)):Option (Bool×Unit):=
 if decide (x1.1<(x1.2.1.length:Int))then if decide (0<=x1.1)then if decide (x1.1<(x1.2.1.length:Int))then if decide (0<=x1.1)then if decide (x1.1<(x1.2.2.1.length:Int))then if ! ((ByteArray.toList (x1.2.1.getD x1.1.toNat (bs [])))==(ByteArray.toList (x1.2.2.1.getD x1.1.toNat (bs []))))then some (false,())else g2 (wrap .i64 (x1.1+1),x1.2.1,x1.2.2.1,())else none else none else none else none else some (true,())
def P.l_eqStringS (k:Nat) (x:List ByteArray×List ByteArray×Unit):Option (Bool×Unit):=
 if(x.1.length:Int) != (x.2.1.length:Int)then some (false,())else loopP P.l_eqStringS_b0 k (0,x.1,x.2.1,())
def S.l_eqStringS (x:((List ByteArray)×((List ByteArray)×Unit))):(Option (Bool×Unit)):=if x.1.length<=9223372036854775807 then some (eqTexts x.1 x.2.1,())else none
theorem S.l_eqStringS_ok (x r) (h:S.l_eqStringS x=some r):∃k,P.l_eqStringS k x=some r:=by
 obtain⟨xs,ys,u⟩:=x;unfold S.l_eqStringS at h;dsimp only at h;split at h
 case isFalse=>cases h
 rename_i hc;cases h;refine⟨xs.length+1,?_⟩;unfold P.l_eqStringS;dsimp only
 by_cases hl:xs.length=ys.length
 ·have e0:((xs.length:Int) != (ys.length:Int))=false:=by simp [hl]
  rw[if_neg (by rw[e0];simp)];have:=loop_up0 (b:=P.l_eqStringS_b0) (n:=xs.length) (st:=fun i=>((i:Int),xs,ys,())) (F:=fun i=>some (eqTexts (xs.drop i) (ys.drop i),())) (fun i g hi hg=>by
   have hy:i<ys.length:=by omega
   unfold P.l_eqStringS_b0;dsimp only at hg ⊢;have e1:(i:Int)<(xs.length:Int):=by omega
   have e1':(i:Int)<(ys.length:Int):=by omega
   have e2:(0:Int)<=(i:Int):=by omega
   simp only[e1,e1',e2,decide_true,if_true];rw[getD_cast xs i _ hi,getD_cast ys i _ hy,wr (x:=(i:Int)+1) (by omega) (by omega),eqTexts_drop hi hy]
   by_cases hq:(xs[i].toList==ys[i].toList)=true
   ·simp only[hq,Bool.not_true,Bool.false_eq_true,if_false,Bool.true_and];exact hg
   ·have hq':(xs[i].toList==ys[i].toList)=false:=by simpa using hq
    simp only[hq',Bool.not_false,if_true,Bool.false_and]) (fun g=>by
   unfold P.l_eqStringS_b0;have e1:¬((xs.length:Int)<(xs.length:Int)):=by omega
   simp only[e1,decide_false,Bool.false_eq_true,if_false];rw[List.drop_length,hl,List.drop_length];rfl) (Nat.lt_succ_self _)
  simpa using this
 ·rw[if_pos (by simp;omega),eqTexts_len hl]
abbrev P.l_eqStringSS_b0 (x1:Int×List (List ByteArray)×List (List ByteArray)×Unit) (g2:Int×List (List ByteArray)×List (List ByteArray)×Unit->Option (Bool×Unit)):Option (Bool×Unit):=
 if decide (x1.1<(x1.2.1.length:Int))then if decide (0<=x1.1)then if decide (x1.1<(x1.2.1.length:Int))then if decide (0<=x1.1)then if decide (x1.1<(x1.2.2.1.length:Int))then(S.l_eqStringS (x1.2.1.getD x1.1.toNat [],x1.2.2.1.getD x1.1.toNat [],())).bind fun y3=>if !y3.1 then some (false,())else g2 (wrap .i64 (x1.1+1),x1.2.1,x1.2.2.1,())else none else none else none else none else some (true,())
def P.l_eqStringSS (k:Nat) (x:List (List ByteArray)×List (List ByteArray)×Unit):Option (Bool×Unit):=
 if(x.1.length:Int) != (x.2.1.length:Int)then some (false,())else loopP P.l_eqStringSS_b0 k (0,x.1,x.2.1,())
def eqTT (xs ys:List (List ByteArray)):Bool:=xs.map (fun r=>r.map ByteArray.toList)==ys.map (fun r=>r.map ByteArray.toList)
theorem eqTT_refl (xs:List (List ByteArray)):eqTT xs xs=true:=by simp [eqTT]
theorem eqTT_len {xs ys:List (List ByteArray)} (h:xs.length≠ys.length):eqTT xs ys=false:=by
 unfold eqTT;rw[beq_eq_false_iff_ne];intro e;have:=congrArg List.length e;simp at this;exact h this
theorem eqTT_drop {xs ys:List (List ByteArray)} {i:Nat} (hx:i<xs.length) (hy:i<ys.length):eqTT (xs.drop i) (ys.drop i)=(eqTexts xs[i] ys[i]&&eqTT (xs.drop (i+1)) (ys.drop (i+1))):=by
 rw[List.drop_eq_getElem_cons hx,List.drop_eq_getElem_cons hy];rfl
open Classical in
def S.l_eqStringSS (x:((List (List ByteArray))×((List (List ByteArray))×Unit))):(Option (Bool×Unit)):=if x.1.length<=9223372036854775807/\∀r∈x.1,r.length<=9223372036854775807 then some (eqTT x.1 x.2.1,())else none
theorem S.l_eqStringSS_ok (x r) (h:S.l_eqStringSS x=some r):∃k,P.l_eqStringSS k x=some r:=by
 obtain⟨xs,ys,u⟩:=x;unfold S.l_eqStringSS at h;dsimp only at h;split at h
 case isFalse=>cases h
 rename_i hc;obtain⟨hc,hr⟩:=hc;cases h;refine⟨xs.length+1,?_⟩;unfold P.l_eqStringSS;dsimp only
 by_cases hl:xs.length=ys.length
 ·have e0:((xs.length:Int) != (ys.length:Int))=false:=by simp [hl]
  rw[if_neg (by rw[e0];simp)];have:=loop_up0 (b:=P.l_eqStringSS_b0) (n:=xs.length) (st:=fun i=>((i:Int),xs,ys,())) (F:=fun i=>some (eqTT (xs.drop i) (ys.drop i),())) (fun i g hi hg=>by
   have hy:i<ys.length:=by omega
   unfold P.l_eqStringSS_b0;dsimp only at hg ⊢;have e1:(i:Int)<(xs.length:Int):=by omega
   have e1':(i:Int)<(ys.length:Int):=by omega
   have e2:(0:Int)<=(i:Int):=by omega
   have es:S.l_eqStringS (xs[i],ys[i],())=some (eqTexts xs[i] ys[i],()):=by simp [S.l_eqStringS,hr xs[i] (List.getElem_mem hi)]
   simp only[e1,e1',e2,decide_true,if_true];rw[getD_cast xs i _ hi,getD_cast ys i _ hy,wr (x:=(i:Int)+1) (by omega) (by omega),eqTT_drop hi hy,es,Option.bind_some];cases hq:eqTexts xs[i] ys[i]
   ·simp
   ·simp only[Bool.not_true,Bool.false_eq_true,if_false,Bool.true_and];exact hg) (fun g=>by
   unfold P.l_eqStringSS_b0;have e1:¬((xs.length:Int)<(xs.length:Int)):=by omega
   simp only[e1,decide_false,Bool.false_eq_true,if_false];rw[List.drop_length,hl,List.drop_length];rfl) (Nat.lt_succ_self _)
  simpa using this
 ·rw[if_pos (by simp;omega),eqTT_len hl]
def P.l_eqChain (k:Nat) (x:List (List ByteArray)×List (List ByteArray)×Unit):Option (Bool×Unit):=
 (S.l_eqStringSS (x.1,x.2.1,())).bind fun y0=>if !y0.1 then some (false,())else some (true,())
def S.l_eqChain (x:((List (List ByteArray))×((List (List ByteArray))×Unit))):(Option (Bool×Unit)):=P.l_eqChain 0 x
theorem S.l_eqChain_ok (x r) (h:S.l_eqChain x=some r):∃k,P.l_eqChain k x=some r:=⟨0,h⟩
def P.l_intactStringS (k:Nat) (x:(List ByteArray×Nat)×(List ByteArray×Nat)×Unit):Option (Bool×Unit):=
 (S.l_roomBehind (((x.2.1.2:Nat):Int),())).bind fun y0=>if((x.1.2:Nat):Int)==((x.2.1.2:Nat):Int)then if decide (0<=(wrap .i64 (((x.2.1.2:Nat):Int)+y0.1)))then if decide ((wrap .i64 (((x.2.1.2:Nat):Int)+y0.1))<=(x.1.1.length:Int))then if decide (0<=(wrap .i64 (((x.2.1.2:Nat):Int)+y0.1)))then if decide (0<=(wrap .i64 (((x.2.1.2:Nat):Int)+y0.1)))then if decide ((wrap .i64 (((x.2.1.2:Nat):Int)+y0.1))<=(x.2.1.1.length:Int))then if decide (0<=(wrap .i64 (((x.2.1.2:Nat):Int)+y0.1)))then(S.l_eqStringS (seen x.1.1 0 ((Int.toNat (wrap .i64 (((x.2.1.2:Nat):Int)+y0.1))) - 0),seen x.2.1.1 0 ((Int.toNat (wrap .i64 (((x.2.1.2:Nat):Int)+y0.1))) - 0),())).bind fun y1=>some (y1.1,())else none else none else none else none else none else none else some (false,())
def S.l_intactStringS (x:(((List ByteArray)×Nat)×(((List ByteArray)×Nat)×Unit))):(Option (Bool×Unit)):=P.l_intactStringS 0 x
theorem S.l_intactStringS_ok (x r) (h:S.l_intactStringS x=some r):∃k,P.l_intactStringS k x=some r:=⟨0,h⟩
theorem room_eq (n:Nat):S.l_roomBehind ((n:Int),())=some (rb n,()):=by
 unfold S.l_roomBehind P.l_roomBehind rb;simp only[beq_iff_eq];split
 ·rfl
 ·split<;>rfl
theorem eqStringS_eq (xs ys:List ByteArray) (h:xs.length<=9223372036854775807):S.l_eqStringS (xs,ys,())=some (eqTexts xs ys,()):=by simp [S.l_eqStringS,h]
theorem tos_false (xs:List ByteArray):tos spare false xs=(xs++List.replicate (rb xs.length).toNat spare,xs.length):=by simp [tos]
theorem intactStringS_eq (xs:List ByteArray) (h:xs.length<=1000000):S.l_intactStringS (((tos spare false xs).1,(tos spare false xs).2),((tos spare false xs).1,(tos spare false xs).2),())=some (true,()):=by
 rw[tos_false];have hr:=rb_le xs.length;unfold S.l_intactStringS P.l_intactStringS;dsimp only;rw[room_eq,Option.bind_some,wr (by omega) (by omega)];have hl:((xs++List.replicate (rb xs.length).toNat spare).length:Int)=(xs.length:Int)+rb xs.length:=by
  rw[List.length_append,List.length_replicate];omega
 have e1:(0:Int)<=(xs.length:Int)+rb xs.length:=by omega
 have e2:(xs.length:Int)+rb xs.length<=(xs.length:Int)+rb xs.length:=by omega
 simp only[hl,e1,e2,decide_true,if_true,beq_self_eq_true];rw[eqStringS_eq _ _ (by simp [seen];omega),eqTexts_refl,Option.bind_some]
abbrev l_intactStringSS.A:=Int×(List (List ByteArray×Nat)×Nat)×(List (List ByteArray×Nat)×Nat)×Int×Unit
abbrev P.l_intactStringSS_b1 (x2:l_intactStringSS.A) (g3:l_intactStringSS.A->Option (Bool×Unit)):Option (Bool×Unit):=
 (fun(a d:Int) (b c:(List (List ByteArray×Nat)×Nat))=>if decide (a<((b.2:Nat):Int))then if decide (0<=a)then if decide (a<((c.2:Nat):Int))then if decide (0<=a)then if decide (a<((b.2:Nat):Int))then(S.l_intactStringS (((c.1.getD a.toNat (([]:List ByteArray),0)).1,(c.1.getD a.toNat (([]:List ByteArray),0)).2),((b.1.getD a.toNat (([]:List ByteArray),0)).1,(b.1.getD a.toNat (([]:List ByteArray),0)).2),())).bind fun y4=>if !y4.1 then some (false,())else g3 (wrap .i64 (a+1),(b.1,b.2),(c.1,c.2),d,())else none else none else none else none else if decide (0<=d)then if decide (d<=(c.1.length:Int))then if decide (0<=((b.2:Nat):Int))then if decide (((b.2:Nat):Int)<=d)then if decide (0<=d)then if decide (d<=(b.1.length:Int))then if decide (0<=((b.2:Nat):Int))then if decide (((b.2:Nat):Int)<=d)then(S.l_eqStringSS (List.map (fun(y5:List ByteArray×Nat)=>List.map (fun(y6:ByteArray)=>y6) (List.take y5.2 y5.1)) (seen c.1 (Int.toNat ((b.2:Nat):Int)) (d.toNat - (Int.toNat ((b.2:Nat):Int)))),List.map (fun(y7:List ByteArray×Nat)=>List.map (fun(y8:ByteArray)=>y8) (List.take y7.2 y7.1)) (seen b.1 (Int.toNat ((b.2:Nat):Int)) (d.toNat - (Int.toNat ((b.2:Nat):Int)))),())).bind fun y9=>some (y9.1,())else none else none else none else none else none else none else none else none) x2.1 x2.2.2.2.1 x2.2.1 x2.2.2.1
def P.l_intactStringSS (k:Nat) (x:(List (List ByteArray×Nat)×Nat)×(List (List ByteArray×Nat)×Nat)×Unit):Option (Bool×Unit):=
 (S.l_roomBehind (((x.2.1.2:Nat):Int),())).bind fun y0=>if((x.1.2:Nat):Int) != ((x.2.1.2:Nat):Int)then some (false,())else loopP P.l_intactStringSS_b1 k (0,(x.2.1.1,x.2.1.2),(x.1.1,x.1.2),wrap .i64 (((x.2.1.2:Nat):Int)+y0.1),())
open Classical in
def S.l_intactStringSS (x:(((List ((List ByteArray)×Nat))×Nat)×(((List ((List ByteArray)×Nat))×Nat)×Unit))):(Option (Bool×Unit)):=if ∃xs,okRS xs/\x=(tos2 false xs,tos2 false xs,())then some (true,())else none
theorem tos2_false (xs:List (List ByteArray)):tos2 false xs=(xs.map (tos spare false)++List.replicate (rb xs.length).toNat spareR,xs.length):=by simp [tos2]
theorem S.l_intactStringSS_ok (x r) (h:S.l_intactStringSS x=some r):∃k,P.l_intactStringSS k x=some r:=by
 unfold S.l_intactStringSS at h;split at h
 case isFalse=>cases h
 rename_i hc;cases h;obtain⟨xs,⟨hl,hr⟩,rfl⟩:=hc;refine⟨xs.length+1,?_⟩;have hb:=rb_le xs.length;rw[tos2_false];unfold P.l_intactStringSS;dsimp only;rw[room_eq,Option.bind_some,wr (by omega) (by omega)];rw[if_neg (by simp)];generalize hA:xs.map (tos spare false)++List.replicate (rb xs.length).toNat spareR=A;have hAl:(A.length:Int)=(xs.length:Int)+rb xs.length:=by
  rw[<-hA,List.length_append,List.length_map,List.length_replicate];omega
 have hget:∀i (hi:i<xs.length),A.getD i ([],0)=tos spare false xs[i]:=by
  intro i hi;rw[<-hA,List.getD_eq_getElem?_getD,List.getElem?_append_left (by simpa using hi)];simp [hi]
 have:=loop_up0 (k:=xs.length+1) (b:=P.l_intactStringSS_b1) (n:=xs.length) (st:=fun i=>((i:Int),(A,xs.length),(A,xs.length),(xs.length:Int)+rb xs.length,())) (F:=fun i=>some (true,())) (fun i g hi hg=>by
  unfold P.l_intactStringSS_b1;dsimp only at hg ⊢;have e1:(i:Int)<(xs.length:Int):=by omega
  have e2:(0:Int)<=(i:Int):=by omega
  simp only[e1,e2,decide_true,if_true,Int.toNat_natCast,hget i hi];rw[intactStringS_eq xs[i] (hr _ (List.getElem_mem hi)),wr (x:=(i:Int)+1) (by omega) (by omega),Option.bind_some];simp only[Bool.not_true,Bool.false_eq_true,if_false];exact hg) (fun g=>by
  unfold P.l_intactStringSS_b1;dsimp only;have e1:¬((xs.length:Int)<(xs.length:Int)):=by omega
  have e2:(0:Int)<=(xs.length:Int)+rb xs.length:=by omega
  have e3:(xs.length:Int)+rb xs.length<=(xs.length:Int)+rb xs.length:=by omega
  have e4:(0:Int)<=(xs.length:Int):=by omega
  have e5:(xs.length:Int)<=(xs.length:Int)+rb xs.length:=by omega
  simp only[e1,hAl,e2,e3,e4,e5,decide_true,decide_false,if_true,Bool.false_eq_true,if_false];have hs:seen A (Int.toNat (xs.length:Int)) (Int.toNat ((xs.length:Int)+rb xs.length) - Int.toNat (xs.length:Int))=List.replicate (rb xs.length).toNat spareR:=by
   unfold seen;rw[<-hA];have:Int.toNat (xs.length:Int)=(xs.map (tos spare false)).length:=by simp
   rw[this,List.drop_left];apply List.take_of_length_le;simp;omega
  rw[hs];unfold S.l_eqStringSS;rw[if_pos,eqTT_refl]
  ·rfl
  ·refine⟨by simp;omega,fun r hr=> ?_⟩;simp only[List.map_replicate,List.mem_replicate]at hr;rw[hr.2];simp [spareR]) (by omega)
 exact this
def P.l_intactChain (k:Nat) (x:(List (List ByteArray×Nat)×Nat)×(List (List ByteArray×Nat)×Nat)×Unit):Option (Bool×Unit):=
 (S.l_intactStringSS ((x.1.1,x.1.2),(x.2.1.1,x.2.1.2),())).bind fun y0=>if !y0.1 then some (false,())else some (true,())
def S.l_intactChain (x:(((List ((List ByteArray)×Nat))×Nat)×(((List ((List ByteArray)×Nat))×Nat)×Unit))):(Option (Bool×Unit)):=P.l_intactChain 0 x
theorem S.l_intactChain_ok (x r) (h:S.l_intactChain x=some r):∃k,P.l_intactChain k x=some r:=⟨0,h⟩
abbrev P.l_markText_b0 (x1:Int×ByteArray×Unit) (g2:Int×ByteArray×Unit->Option (ByteArray×Unit)):Option (ByteArray×Unit):=
 if decide (x1.1>0)then if decide (((ByteArray.size (strOf [wrap .u8 (wrap .i64 (48+(Int.tmod x1.1 10)))]))+x1.2.1.size)<=9223372036854775807)then g2 (wrap .i64 (Int.tdiv x1.1 10),(strOf [wrap .u8 (wrap .i64 (48+(Int.tmod x1.1 10)))])++x1.2.1,())else none else if decide ((1+x1.2.1.size)<=9223372036854775807)then some ((bs [109])++x1.2.1,())else none
def P.l_markText (k:Nat) (x:Int×Unit):Option (ByteArray×Unit):=
 if decide (x.1<=0)then some ((bs [109,48]),())else loopP P.l_markText_b0 k (x.1,bs [],())
theorem mark_loop:∀(k:Nat) (n:Int) (t:ByteArray),0<=n->n<10^k->n<=1000000000000->t.size<=1000 - k->k<=100->∃r,loopP P.l_markText_b0 (k+1) (n,(t,()))=some (r,()):=by
 intro k
 induction k with
 |zero=>
  intro n t h0 h1 hm ht hk;have hn:n=0:=by
   have:(10:Int)^0=1:=rfl;omega
  subst hn;refine⟨bs [109]++t,?_⟩;rw[loopP_succ];unfold P.l_markText_b0;dsimp only;rw[if_neg (by simp),if_pos (decide_eq_true (by omega))]
 |succ k ih=>
  intro n t h0 h1 hm ht hk;rw[loopP_succ];unfold P.l_markText_b0;dsimp only
  by_cases hp:n>0
  ·have hsz:∀z:Int,(strOf [z]).size=1:=fun z=>rfl
   rw[if_pos (decide_eq_true hp),if_pos (decide_eq_true (by rw[hsz];omega))];have hd:Int.tdiv n 10=n/10:=Int.tdiv_eq_ediv_of_nonneg h0;have hb:n/10<10^k:=by
    rw[Int.pow_succ]at h1;omega
   rw[hd,wr (x:=n/10) (by omega) (by omega)]
   exact ih (n/10) _ (by omega) hb (by omega) (by
    rw[ByteArray.size_append,hsz];omega) (by omega)
  ·rw[if_neg (by simpa using hp),if_pos (decide_eq_true (by omega))];exact⟨_,rfl⟩
def S.l_markText (x:(Int×Unit)):(Option (ByteArray×Unit)):=if 0<=x.1/\x.1<=1000000000000 then P.l_markText 14 x else none
theorem S.l_markText_ok (x r) (h:S.l_markText x=some r):∃k,P.l_markText k x=some r:=by
 unfold S.l_markText at h;split at h
 case isFalse=>cases h
 exact⟨14,h⟩
def mkT (n:Int):ByteArray:=match S.l_markText (n,())with
 |some r=>r.1
 |none=>bs []
theorem mkT_eq {n:Int} (h0:0<=n) (h1:n<=1000000000000):S.l_markText (n,())=some (mkT n,()):=by
 have:∃t,S.l_markText (n,())=some (t,()):=by
  unfold S.l_markText;dsimp only;rw[if_pos ⟨h0,h1⟩];unfold P.l_markText;dsimp only
  by_cases hn:n<=0
  ·rw[if_pos (decide_eq_true hn)];exact⟨_,rfl⟩
  ·rw[if_neg (by simpa using hn)];exact mark_loop 13 n _ h0 (by have:(10:Int)^13=10000000000000:=rfl;omega) h1 (by decide) (by decide)
 obtain⟨t,ht⟩:=this;unfold mkT;rw[ht]
def marks (q:Int):Nat->List ByteArray
 |0=>[]
 |n+1=>marks q n++[mkT (q+(n:Int))]
theorem marks_len (q:Int) (n:Nat):(marks q n).length=n:=by
 induction n with
 |zero=>rfl
 |succ n ih=>rw[marks,List.length_append,ih];rfl
theorem marks_get (q:Int) (n i:Nat) (hi:i<n):(marks q n)[i]'(by rw[marks_len];exact hi)=mkT (q+(i:Int)):=by
 induction n with
 |zero=>omega
 |succ n ih=>
  unfold marks
  by_cases h:i<n
  ·rw[List.getElem_append_left (by rw[marks_len];exact h)];exact ih h
  ·have:i=n:=by omega
   subst this;rw[List.getElem_append_right (by rw[marks_len];exact Nat.le_refl _)];simp [marks_len]
abbrev P.l_markStringS_b0 (x1:Int×List ByteArray×Int×Unit) (g2:Int×List ByteArray×Int×Unit->Option (Int×List ByteArray×Unit)):Option (Int×List ByteArray×Unit):=
 if decide (x1.1<(x1.2.1.length:Int))then(S.l_markText (x1.2.2.1,())).bind fun y3=>if decide (0<=x1.1)then if decide (x1.1<(x1.2.1.length:Int))then g2 (wrap .i64 (x1.1+1),x1.2.1.set (0+x1.1.toNat) y3.1,wrap .i64 (x1.2.2.1+1),())else none else none else some (x1.2.2.1,x1.2.1,())
def P.l_markStringS (k:Nat) (x:List ByteArray×Int×Unit):Option (Int×List ByteArray×Unit):=
 loopP P.l_markStringS_b0 k (0,x.1,x.2.1,())
def S.l_markStringS (x:((List ByteArray)×(Int×Unit))):(Option (Int×((List ByteArray)×Unit))):=if 0<=x.2.1/\x.2.1<=100000000/\x.1.length<=10000000 then some (x.2.1+(x.1.length:Int),(marks x.2.1 x.1.length,()))else none
theorem S.l_markStringS_ok (x r) (h:S.l_markStringS x=some r):∃k,P.l_markStringS k x=some r:=by
 obtain⟨xs,q,u⟩:=x;unfold S.l_markStringS at h;dsimp only at h;split at h
 case isFalse=>cases h
 rename_i hc;obtain⟨h0,h1,h2⟩:=hc;cases h;refine⟨xs.length+1,?_⟩;unfold P.l_markStringS;have key:=loop_up0 (k:=xs.length+1) (b:=P.l_markStringS_b0) (n:=xs.length) (st:=fun i=>((i:Int),(marks q i++xs.drop i,(q+(i:Int),())))) (F:=fun i=>some (q+(xs.length:Int),(marks q xs.length,()))) (fun i g hi hg=>by
  unfold P.l_markStringS_b0;dsimp only at hg ⊢;have hlen:(marks q i++xs.drop i).length=xs.length:=by rw[List.length_append,marks_len,List.length_drop];omega
  have e1:(i:Int)<(xs.length:Int):=by omega
  have e2:(0:Int)<=(i:Int):=by omega
  rw[hlen,if_pos (decide_eq_true e1),mkT_eq (by omega) (by omega),Option.bind_some];dsimp only;rw[if_pos (decide_eq_true e2),if_pos (decide_eq_true e1),wr (by omega) (by omega),wr (by omega) (by omega),Nat.zero_add,Int.toNat_natCast];have hset:(marks q i++xs.drop i).set i (mkT (q+(i:Int)))=marks q (i+1)++xs.drop (i+1):=by
   rw[List.set_append_right _ _ (by rw[marks_len];exact Nat.le_refl _),marks_len,Nat.sub_self,List.drop_eq_getElem_cons hi,List.set_cons_zero,marks,List.append_assoc];rfl
  rw[hset,show(i:Int)+1=((i+1:Nat):Int) by omega,show q+(i:Int)+1=q+((i+1:Nat):Int) by omega];exact hg) (fun g=>by
  unfold P.l_markStringS_b0;dsimp only;have hlen:(marks q xs.length++xs.drop xs.length).length=xs.length:=by rw[List.length_append,marks_len,List.length_drop];omega
  rw[hlen,if_neg (by simp),List.drop_length,List.append_nil]) (by omega)
 refine Eq.trans ?_ key;rw[show q+((0:Nat):Int)=q by omega];rfl
abbrev l_markStringSS.A:=Option (Int×List (List ByteArray×Nat)×Unit)
abbrev P.l_markStringSS_b1 (x2:Int×List (List ByteArray×Nat)×Int×Unit) (g3:Int×List (List ByteArray×Nat)×Int×Unit->l_markStringSS.A):l_markStringSS.A:=
 (fun(a c:Int) (b:List (List ByteArray×Nat))=>if decide (a<(List.length (hd0 b):Int))then if decide (0<=a)then if decide (a<(List.length (hd0 b):Int))then(S.l_markStringS (seen (List.getD (in0 b) (List.getD (hd0 b) (0+a.toNat) (0,0)).1 []) 0 (List.getD (hd0 b) (0+a.toNat) (0,0)).2,c,())).bind fun y4=>if dup (List.map (fun(y5:Nat×Nat)=>y5.1) (hd0 b))then none else g3 (wrap .i64 (a+1),nrm (hd0 b) (List.set (in0 b) (List.getD (hd0 b) (0+a.toNat) (0,0)).1 (splice (List.getD (in0 b) (List.getD (hd0 b) (0+a.toNat) (0,0)).1 []) y4.2.1 0)),y4.1,())else none else none else if dup (List.map (fun(y6:Nat×Nat)=>y6.1) (hd0 b))then none else some (c,nrm (hd0 b) (in0 b),())) x2.1 x2.2.2.1 x2.2.1
def P.l_markStringSS (k:Nat) (x:List (List ByteArray×Nat)×Int×Unit):l_markStringSS.A:=
 if dup (List.map (fun(y0:Nat×Nat)=>y0.1) (hd0 x.1))then none else loopP P.l_markStringSS_b1 k (0,nrm (hd0 x.1) (in0 x.1),x.2.1,())
def mk2n:List (List ByteArray×Nat)->Nat
 | []=>0
 |r::m=>(seen r.1 0 r.2).length+mk2n m
def mk2 (q:Int):List (List ByteArray×Nat)->List (List ByteArray×Nat)
 | []=>[]
 |r::m=>(splice r.1 (marks q (seen r.1 0 r.2).length) 0,r.2)::mk2 (q+((seen r.1 0 r.2).length:Int)) m
theorem mk2_len (q:Int) (m:List (List ByteArray×Nat)):(mk2 q m).length=m.length:=by
 induction m generalizing q with
 |nil=>rfl
 |cons r m ih=>simp [mk2,ih]
theorem mk2n_append (a b:List (List ByteArray×Nat)):mk2n (a++b)=mk2n a+mk2n b:=by
 induction a with
 |nil=>simp [mk2n]
 |cons r a ih=>rw[List.cons_append,mk2n,mk2n,ih];omega
theorem mk2_snoc (q:Int) (a:List (List ByteArray×Nat)) (r:List ByteArray×Nat):mk2 q (a++[r])=mk2 q a++[(splice r.1 (marks (q+(mk2n a:Int)) (seen r.1 0 r.2).length) 0,r.2)]:=by
 induction a generalizing q with
 |nil=>simp [mk2,mk2n]
 |cons b a ih=>
  rw[List.cons_append,mk2,mk2,ih,mk2n,List.cons_append,show q+((seen b.1 0 b.2).length:Int)+(mk2n a:Int)=q+(((seen b.1 0 b.2).length+mk2n a:Nat):Int) by omega]
def S.l_markStringSS (x:((List ((List ByteArray)×Nat))×(Int×Unit))):(Option (Int×((List ((List ByteArray)×Nat))×Unit))):=if 0<=x.2.1/\x.2.1<=1000000/\mk2n x.1<=10000000/\x.1.length<=10000000 then some (x.2.1+(mk2n x.1:Int),(mk2 x.2.1 x.1,()))else none
theorem S.l_markStringSS_ok (x r) (h:S.l_markStringSS x=some r):∃k,P.l_markStringSS k x=some r:=by
 obtain⟨m,q,u⟩:=x;unfold S.l_markStringSS at h;dsimp only at h;split at h
 case isFalse=>cases h
 rename_i hc;obtain⟨h0,h1,h2,h3⟩:=hc;cases h;refine⟨m.length+1,?_⟩;unfold P.l_markStringSS;dsimp only;have key:=loop_up0 (k:=m.length+1) (b:=P.l_markStringSS_b1) (n:=m.length) (st:=fun i=>((i:Int),(mk2 q (m.take i)++m.drop i,(q+(mk2n (m.take i):Int),())))) (F:=fun i=>some (q+(mk2n m:Int),(mk2 q m,()))) (fun i g hi hg=>by
  unfold P.l_markStringSS_b1;dsimp only at hg ⊢;have hl:(mk2 q (m.take i)).length=i:=by rw[mk2_len,List.length_take];omega
  have hlen:(mk2 q (m.take i)++m.drop i).length=m.length:=by rw[List.length_append,hl,List.length_drop];omega
  have hget:(mk2 q (m.take i)++m.drop i)[i]'(by rw[hlen];exact hi)=m[i]:=by
   rw[List.getElem_append_right (by omega)];simp [hl]
  have e1:(i:Int)<(m.length:Int):=by omega
  have e2:(0:Int)<=(i:Int):=by omega
  have et:m=m.take i++m[i]::m.drop (i+1):=by rw[<-List.drop_eq_getElem_cons hi,List.take_append_drop]
  have en:mk2n (m.take i)+((seen m[i].1 0 m[i].2).length+mk2n (m.drop (i+1)))=mk2n m:=by
   conv=>rhs;rw[et,mk2n_append,mk2n]
  have em:S.l_markStringS (seen m[i].1 0 m[i].2,(q+(mk2n (m.take i):Int),()))=some (q+(mk2n (m.take i):Int)+((seen m[i].1 0 m[i].2).length:Int),(marks (q+(mk2n (m.take i):Int)) (seen m[i].1 0 m[i].2).length,())):=by
   unfold S.l_markStringS;exact if_pos ⟨by show 0<=q+(mk2n (m.take i):Int);omega,by show q+(mk2n (m.take i):Int)<=100000000;omega,by show(seen m[i].1 0 m[i].2).length<=10000000;omega⟩
  simp only[hd0_length,hlen,e1,e2,decide_true,if_true,Nat.zero_add,Int.toNat_natCast];rw[hd0_at _ (by rw[hlen];exact hi)];dsimp only;rw[in0_at _ (by rw[hlen];exact hi),hget,em,Option.bind_some];simp only[hd0_dup,Bool.false_eq_true,if_false];rw[nrm_write _ (by rw[hlen];exact hi),hget,wr (by omega) (by omega)];have e5:(mk2 q (m.take i)++m.drop i).set i (splice m[i].1 (marks (q+(mk2n (m.take i):Int)) (seen m[i].1 0 m[i].2).length) 0,m[i].2)=mk2 q (m.take (i+1))++m.drop (i+1):=by
   rw[List.set_append_right _ _ (by omega),hl,Nat.sub_self,List.drop_eq_getElem_cons hi,List.set_cons_zero,<-List.take_append_getElem hi,mk2_snoc,List.append_assoc];rfl
  have e6:q+(mk2n (m.take i):Int)+((seen m[i].1 0 m[i].2).length:Int)=q+(mk2n (m.take (i+1)):Int):=by
   rw[<-List.take_append_getElem hi,mk2n_append];simp only[mk2n];omega
  rw[e5,e6,<-hg];rfl) (fun g=>by
  unfold P.l_markStringSS_b1;dsimp only;rw[List.take_length,List.drop_length,List.append_nil];simp only[hd0_length,mk2_len,hd0_dup,nrm_hd0,Bool.false_eq_true,if_false];rw[if_neg (by simp)]) (by omega)
 simp only[hd0_dup,nrm_hd0,Bool.false_eq_true,if_false];refine Eq.trans ?_ key;simp [mk2n,mk2]
def P.l_markChain (k:Nat) (x:List (List ByteArray×Nat)×Int×Unit):Option (Int×List (List ByteArray×Nat)×Unit):=
 if dup (List.map (fun(y0:Nat×Nat)=>y0.1) (hd0 x.1))then none else(S.l_markStringSS (nrm (hd0 x.1) (in0 x.1),x.2.1,())).bind fun y1=>if dup (List.map (fun(y2:Nat×Nat)=>y2.1) (hd0 y1.2.1))then none else some (y1.1,nrm (hd0 y1.2.1) (in0 y1.2.1),())
def S.l_markChain (x:((List ((List ByteArray)×Nat))×(Int×Unit))):(Option (Int×((List ((List ByteArray)×Nat))×Unit))):=P.l_markChain 0 x
theorem S.l_markChain_ok (x r) (h:S.l_markChain x=some r):∃k,P.l_markChain k x=some r:=⟨0,h⟩
abbrev l_toStringSo.A:=Int×List ByteArray×List ByteArray×Unit
abbrev l_toStringSo.B:=Option ((List ByteArray×Nat)×Unit)
abbrev P.l_toStringSo_b4 (x5:l_toStringSo.A) (g6:l_toStringSo.A->l_toStringSo.B):l_toStringSo.B:=
 if decide (x5.1<(x5.2.1.length:Int))then if decide (0<=x5.1)then if decide (x5.1<(x5.2.1.length:Int))then g6 (wrap .i64 (x5.1+1),x5.2.1.set (0+x5.1.toNat) (bs [126,115,112,97,114,101,126]),x5.2.2.1,())else none else none else if decide (0<=(x5.2.2.1.length:Int))then if decide (((x5.2.2.1.length:Int)+0)<=(x5.2.1.length:Int))then if decide (0<=(x5.2.2.1.length:Int))then some ((x5.2.1,(Int.toNat (x5.2.2.1.length:Int)) - 0),())else none else none else none
abbrev P.l_toStringSo_b1 (k:Nat) (x2:l_toStringSo.A) (g3:l_toStringSo.A->l_toStringSo.B):l_toStringSo.B:=
 if decide (x2.1<(x2.2.1.length:Int))then if decide (0<=x2.1)then if decide (x2.1<(x2.2.1.length:Int))then if decide (0<=x2.1)then if decide (x2.1<(x2.2.2.1.length:Int))then g3 (wrap .i64 (x2.1+1),x2.2.1,x2.2.2.1.set (0+x2.1.toNat) (x2.2.1.getD x2.1.toNat (bs [])),())else none else none else none else none else loopP P.l_toStringSo_b4 k ((x2.2.1.length:Int),x2.2.2.1,x2.2.1,())
def P.l_toStringSo (k:Nat) (x:List ByteArray×Bool×Unit):l_toStringSo.B:=
 if x.2.1 then if(x.1.length:Int)==0 then some ((([]:List ByteArray),0),())else(S.l_roomBehind ((x.1.length:Int),())).bind fun y0=>if decide (0<=(wrap .i64 ((x.1.length:Int)+y0.1)))then if decide ((wrap .i64 ((x.1.length:Int)+y0.1))<=(wrap .i64 ((x.1.length:Int)+y0.1)))then if decide (((wrap .i64 ((x.1.length:Int)+y0.1))*16)<=281474976710656)then loopP (P.l_toStringSo_b1 k) k (0,x.1,List.replicate (Int.toNat (wrap .i64 ((x.1.length:Int)+y0.1))) (bs []),())else none else none else none else(S.l_roomBehind ((x.1.length:Int),())).bind fun y7=>if decide (0<=(wrap .i64 ((x.1.length:Int)+y7.1)))then if decide ((wrap .i64 ((x.1.length:Int)+y7.1))<=(wrap .i64 ((x.1.length:Int)+y7.1)))then if decide (((wrap .i64 ((x.1.length:Int)+y7.1))*16)<=281474976710656)then loopP (P.l_toStringSo_b1 k) k (0,x.1,List.replicate (Int.toNat (wrap .i64 ((x.1.length:Int)+y7.1))) (bs []),())else none else none else none
def S.l_toStringSo (x:((List ByteArray)×(Bool×Unit))):(Option (((List ByteArray)×Nat)×Unit)):=S.l_toStringS x
theorem toStringSo_b4 (xs:List ByteArray) (m n k:Nat) (h:n=xs.length) (hl:n<=1000000) (hm:m<=n+1) (hk:m<k):
  loopP P.l_toStringSo_b4 k ((n:Int),xs++List.replicate m (bs []),xs,())=some ((xs++List.replicate m spare,n),()):=by
 have key:=loop_up0 (b:=P.l_toStringSo_b4) (n:=m) (st:=fun i=>(((n+i:Nat):Int),(xs++List.replicate i spare)++List.replicate (m - i) (bs []),xs,())) (F:=fun i=>some ((xs++List.replicate m spare,n),())) (fun i g hi hg=>by
  unfold P.l_toStringSo_b4;dsimp only at hg ⊢;have hlen:((xs++List.replicate i spare)++List.replicate (m - i) (bs [])).length=n+m:=by simp;omega
  simp only[hlen];have e1:((n+i:Nat):Int)<((n+m:Nat):Int):=by omega
  have e2:(0:Int)<=((n+i:Nat):Int):=by omega
  simp only[e1,e2,decide_true,if_true];rw[wr (by omega) (by omega),<-hg];congr 1;have e3:m - i=(m - (i+1))+1:=by omega
  have e4:(0+((n+i:Nat):Int).toNat)=(xs++List.replicate i spare).length:=by rw[List.length_append,List.length_replicate];omega
  rw[e3,e4,set_fill];simp only[List.replicate_succ',<-List.append_assoc,spare];rfl) (fun g=>by
  unfold P.l_toStringSo_b4;dsimp only;have hlen:((xs++List.replicate m spare)++List.replicate (m - m) (bs [])).length=n+m:=by simp;omega
  simp only[hlen];have e1:¬((n+m:Nat):Int)<((n+m:Nat):Int):=by omega
  have e2:(0:Int)<=(xs.length:Int):=by omega
  have e3:(xs.length:Int)+0<=((n+m:Nat):Int):=by omega
  simp only[e1,e2,e3,decide_true,decide_false,if_true,Bool.false_eq_true,if_false];simp [h]) hk
 simpa using key
theorem toStringSo_b1 (k0:Nat) (xs:List ByteArray) (m k:Nat) (hl:xs.length<=1000000) (hm:m<=xs.length+1) (hk0:m<k0) (hk:xs.length<k):
  loopP (P.l_toStringSo_b1 k0) k ((0:Int),xs,List.replicate (xs.length+m) (bs []),())=some ((xs++List.replicate m spare,xs.length),()):=by
 have key:=loop_up0 (b:=P.l_toStringSo_b1 k0) (n:=xs.length) (st:=fun i=>((i:Int),xs,xs.take i++List.replicate (xs.length - i+m) (bs []),())) (F:=fun i=>some ((xs++List.replicate m spare,xs.length),())) (fun i g hi hg=>by
  unfold P.l_toStringSo_b1;dsimp only at hg ⊢;have hlen:(xs.take i++List.replicate (xs.length - i+m) (bs [])).length=xs.length+m:=by simp;omega
  simp only[hlen];have e1:(i:Int)<(xs.length:Int):=by omega
  have e1':(i:Int)<((xs.length+m:Nat):Int):=by omega
  have e2:(0:Int)<=(i:Int):=by omega
  simp only[e1,e1',e2,decide_true,if_true];rw[wr (by omega) (by omega),getD_cast xs i _ hi,<-hg];congr 1;have e3:xs.length - i+m=(xs.length - (i+1)+m)+1:=by omega
  have e4:(0+(i:Int).toNat)=(xs.take i).length:=by simp;omega
  rw[e3,e4,set_fill];simp) (fun g=>by
  unfold P.l_toStringSo_b1;dsimp only;have e1:¬(xs.length:Int)<(xs.length:Int):=by omega
  simp only[e1,decide_false,Bool.false_eq_true,if_false];have:=toStringSo_b4 xs m xs.length k0 rfl hl hm hk0;simpa using this) hk
 simpa using key
theorem S.l_toStringSo_ok (x r) (h:S.l_toStringSo x=some r):∃k,P.l_toStringSo k x=some r:=by
 obtain⟨xs,bare,u⟩:=x;unfold S.l_toStringSo S.l_toStringS at h;dsimp only at h;split at h
 case isFalse=>cases h
 rename_i hl;cases h;refine⟨xs.length+2,?_⟩;have hr:=rb_le xs.length;have go:(Option.bind (S.l_roomBehind (((List.length xs):Int),())) (fun(y0:(Int×Unit))=>(if((decide ((0:Int)<=(IntKind.wrap .i64 (((List.length xs):Int)+y0.1))))=true)then(if((decide ((IntKind.wrap .i64 (((List.length xs):Int)+y0.1))<=(IntKind.wrap .i64 (((List.length xs):Int)+y0.1))))=true)then(if((decide (((IntKind.wrap .i64 (((List.length xs):Int)+y0.1))*(16:Int))<=(281474976710656:Int)))=true)then(loopP (X:=(Int×((List ByteArray)×((List ByteArray)×Unit)))) (R:=(((List ByteArray)×Nat)×Unit)) (P.l_toStringSo_b1 (xs.length+2)) (xs.length+2) ((0:Int),(xs,((List.replicate (Int.toNat (IntKind.wrap .i64 (((List.length xs):Int)+y0.1))) (bs [])),()))))
 else none)
 else none)
 else none)))=some ((xs++List.replicate (rb xs.length).toNat spare,xs.length),()):=by
  have e0:S.l_roomBehind ((xs.length:Int),())=some (rb xs.length,()):=by
   unfold S.l_roomBehind P.l_roomBehind rb;simp only[beq_iff_eq];split
   ·rfl
   ·split<;>rfl
  rw[e0,Option.bind_some];dsimp only;rw[wr (by omega) (by omega)];have e1:(0:Int)<=(xs.length:Int)+rb xs.length:=by omega
  have e2:(xs.length:Int)+rb xs.length<=(xs.length:Int)+rb xs.length:=by omega
  have e3:((xs.length:Int)+rb xs.length)*16<=281474976710656:=by omega
  simp only[e1,e2,e3,decide_true,if_true];have e4:((xs.length:Int)+rb xs.length).toNat=xs.length+(rb xs.length).toNat:=by omega
  rw[e4];exact toStringSo_b1 _ xs _ _ hl (by omega) (by omega) (by omega)
 unfold P.l_toStringSo tos;dsimp only;cases bare with
 |true=>
  simp only[if_true]
  by_cases hx:xs=[]
  ·subst hx;rfl
  ·have hx':¬((((xs.length:Nat):Int)==0)=true):=by
    simp [hx]
   rw[if_neg hx',if_neg (by simp [hx])];exact go
 |false=>
  simp only[Bool.false_eq_true,if_false,false_and];exact go
abbrev l_toStringSSo.A:=Int×List (List ByteArray)×List (List ByteArray×Nat)×Bool×Unit
abbrev l_toStringSSo.B:=Option ((List (List ByteArray×Nat)×Nat)×Unit)
abbrev P.l_toStringSSo_b8 (x9:Int×List (List ByteArray×Nat)×List (List ByteArray)×Unit) (g10:Int×List (List ByteArray×Nat)×List (List ByteArray)×Unit->l_toStringSSo.B):l_toStringSSo.B:=
 if decide (x9.1<(List.length (hd0 x9.2.1):Int))then if decide (0<=x9.1)then if decide (x9.1<(List.length (hd0 x9.2.1):Int))then if dup (List.map (fun(y11:Nat×Nat)=>y11.1) (List.set (hd0 x9.2.1) (0+x9.1.toNat) (List.length (in0 x9.2.1),1)))then none else g10 (wrap .i64 (x9.1+1),nrm (List.set (hd0 x9.2.1) (0+x9.1.toNat) (List.length (in0 x9.2.1),1)) ((in0 x9.2.1)++[[(bs [126,115,112,97,114,101,126])]]),x9.2.2.1,())else none else none else if decide (0<=(x9.2.2.1.length:Int))then if decide (((x9.2.2.1.length:Int)+0)<=(List.length (hd0 x9.2.1):Int))then if decide (0<=(x9.2.2.1.length:Int))then if dup (List.map (fun(y12:Nat×Nat)=>y12.1) (hd0 x9.2.1))then none else some ((nrm (hd0 x9.2.1) (in0 x9.2.1),(Int.toNat (x9.2.2.1.length:Int)) - 0),())else none else none else none
abbrev P.l_toStringSSo_b2 (k:Nat) (x3:l_toStringSSo.A) (g4:l_toStringSSo.A->l_toStringSSo.B):l_toStringSSo.B:=
 (fun(a:Int) (b:List (List ByteArray)) (c:List (List ByteArray×Nat)) (d:Bool)=>if decide (a<(b.length:Int))then if decide (0<=a)then if decide (a<(b.length:Int))then(S.l_toStringSo (b.getD a.toNat [],d,())).bind fun y5=>if decide (0<=a)then if decide (a<(List.length (hd0 c):Int))then if dup (List.map (fun(y6:Nat×Nat)=>y6.1) (List.set (hd0 c) (0+a.toNat) (List.length (in0 c),y5.1.2)))then none else g4 (wrap .i64 (a+1),b,nrm (List.set (hd0 c) (0+a.toNat) (List.length (in0 c),y5.1.2)) ((in0 c)++[y5.1.1]),d,())else none else none else none else none else if dup (List.map (fun(y7:Nat×Nat)=>y7.1) (hd0 c))then none else loopP P.l_toStringSSo_b8 k ((b.length:Int),nrm (hd0 c) (in0 c),b,())) x3.1 x3.2.1 x3.2.2.1 x3.2.2.2.1
abbrev P.l_toStringSSo_b15 (k:Nat) (x16:l_toStringSSo.A) (g17:l_toStringSSo.A->l_toStringSSo.B):l_toStringSSo.B:=
 (fun(a:Int) (b:List (List ByteArray)) (c:List (List ByteArray×Nat)) (d:Bool)=>if decide (a<(b.length:Int))then if decide (0<=a)then if decide (a<(b.length:Int))then(S.l_toStringSo (b.getD a.toNat [],d,())).bind fun y18=>if decide (0<=a)then if decide (a<(List.length (hd0 c):Int))then if dup (List.map (fun(y19:Nat×Nat)=>y19.1) (List.set (hd0 c) (0+a.toNat) (List.length (in0 c),y18.1.2)))then none else g17 (wrap .i64 (a+1),b,nrm (List.set (hd0 c) (0+a.toNat) (List.length (in0 c),y18.1.2)) ((in0 c)++[y18.1.1]),d,())else none else none else none else none else if dup (List.map (fun(y20:Nat×Nat)=>y20.1) (hd0 c))then none else loopP P.l_toStringSSo_b8 k ((b.length:Int),nrm (hd0 c) (in0 c),b,())) x16.1 x16.2.1 x16.2.2.1 x16.2.2.2.1
def P.l_toStringSSo (k:Nat) (x:List (List ByteArray)×Bool×Unit):l_toStringSSo.B:=
 if x.2.1 then if(x.1.length:Int)==0 then some ((([]:List (List ByteArray×Nat)),0),())else(S.l_roomBehind ((x.1.length:Int),())).bind fun y0=>if decide (0<=(wrap .i64 ((x.1.length:Int)+y0.1)))then if decide ((wrap .i64 ((x.1.length:Int)+y0.1))<=(wrap .i64 ((x.1.length:Int)+y0.1)))then if decide (((wrap .i64 ((x.1.length:Int)+y0.1))*24)<=281474976710656)then if dup (List.map (fun(y1:Nat×Nat)=>y1.1) (hd0 (List.replicate (Int.toNat (wrap .i64 ((x.1.length:Int)+y0.1))) (([]:List ByteArray),0))))then none else loopP (P.l_toStringSSo_b2 k) k (0,x.1,nrm (hd0 (List.replicate (Int.toNat (wrap .i64 ((x.1.length:Int)+y0.1))) (([]:List ByteArray),0))) (in0 (List.replicate (Int.toNat (wrap .i64 ((x.1.length:Int)+y0.1))) (([]:List ByteArray),0))),x.2.1,())else none else none else none else(S.l_roomBehind ((x.1.length:Int),())).bind fun y13=>if decide (0<=(wrap .i64 ((x.1.length:Int)+y13.1)))then if decide ((wrap .i64 ((x.1.length:Int)+y13.1))<=(wrap .i64 ((x.1.length:Int)+y13.1)))then if decide (((wrap .i64 ((x.1.length:Int)+y13.1))*24)<=281474976710656)then if dup (List.map (fun(y14:Nat×Nat)=>y14.1) (hd0 (List.replicate (Int.toNat (wrap .i64 ((x.1.length:Int)+y13.1))) (([]:List ByteArray),0))))then none else loopP (P.l_toStringSSo_b15 k) k (0,x.1,nrm (hd0 (List.replicate (Int.toNat (wrap .i64 ((x.1.length:Int)+y13.1))) (([]:List ByteArray),0))) (in0 (List.replicate (Int.toNat (wrap .i64 ((x.1.length:Int)+y13.1))) (([]:List ByteArray),0))),x.2.1,())else none else none else none
def S.l_toStringSSo (x:((List (List ByteArray))×(Bool×Unit))):(Option (((List ((List ByteArray)×Nat))×Nat)×Unit)):=S.l_toStringSS x
theorem toStringSSo_b8 (xs:List (List ByteArray)) (ys:List (List ByteArray×Nat)) (m n k:Nat) (h:n=xs.length) (hy:ys.length=n) (hl:n<=1000000) (hm:m<=n+1) (hk:m<k):
  loopP P.l_toStringSSo_b8 k ((n:Int),ys++List.replicate m ([],0),xs,())=some ((ys++List.replicate m spareR,n),()):=by
 have key:=loop_up0 (b:=P.l_toStringSSo_b8) (n:=m) (st:=fun i=>(((n+i:Nat):Int),(ys++List.replicate i spareR)++List.replicate (m - i) ([],0),xs,())) (F:=fun i=>some ((ys++List.replicate m spareR,n),())) (fun i g hi hg=>by
  unfold P.l_toStringSSo_b8;dsimp only at hg ⊢;have hlen:((ys++List.replicate i spareR)++List.replicate (m - i) ([],0)).length=n+m:=by simp;omega
  have e1:((n+i:Nat):Int)<((n+m:Nat):Int):=by omega
  have e2:(0:Int)<=((n+i:Nat):Int):=by omega
  simp only[hd0_length,hlen,hd0_dup_set,nrm_store,e1,e2,decide_true,if_true,Bool.false_eq_true,if_false];rw[wr (by omega) (by omega),<-hg];congr 1;have e3:m - i=(m - (i+1))+1:=by omega
  have e4:(0+((n+i:Nat):Int).toNat)=(ys++List.replicate i spareR).length:=by rw[List.length_append,List.length_replicate];omega
  rw[e3,e4,set_fill];simp only[List.replicate_succ',<-List.append_assoc,spareR,spare];rfl) (fun g=>by
  unfold P.l_toStringSSo_b8;dsimp only;have hlen:((ys++List.replicate m spareR)++List.replicate (m - m) ([],0)).length=n+m:=by simp;omega
  have e1:¬((n+m:Nat):Int)<((n+m:Nat):Int):=by omega
  have e2:(0:Int)<=(xs.length:Int):=by omega
  have e3:(xs.length:Int)+0<=((n+m:Nat):Int):=by omega
  simp only[hd0_length,hlen,hd0_dup,nrm_hd0,e1,e2,e3,decide_true,decide_false,if_true,Bool.false_eq_true,if_false];simp [h]) hk
 simpa using key
theorem toStringSSo_b2 (k0:Nat) (bare:Bool) (xs:List (List ByteArray)) (m k:Nat) (hl:okRS xs) (hm:m<=xs.length+1) (hk0:m<k0) (hk:xs.length<k):
  loopP (P.l_toStringSSo_b2 k0) k ((0:Int),xs,List.replicate (xs.length+m) ([],0),bare,())=some ((xs.map (tos spare bare)++List.replicate m spareR,xs.length),()):=by
 obtain⟨hl,hr⟩:=hl;have key:=loop_up0 (b:=P.l_toStringSSo_b2 k0) (n:=xs.length) (st:=fun i=>((i:Int),xs,(xs.take i).map (tos spare bare)++List.replicate (xs.length - i+m) ([],0),bare,())) (F:=fun i=>some ((xs.map (tos spare bare)++List.replicate m spareR,xs.length),())) (fun i g hi hg=>by
  unfold P.l_toStringSSo_b2;dsimp only at hg ⊢;have hlen:((xs.take i).map (tos spare bare)++List.replicate (xs.length - i+m) ([],0)).length=xs.length+m:=by simp;omega
  have e1:(i:Int)<(xs.length:Int):=by omega
  have e1':(i:Int)<((xs.length+m:Nat):Int):=by omega
  have e2:(0:Int)<=(i:Int):=by omega
  have es:S.l_toStringSo (xs[i],bare,())=some (tos spare bare xs[i],()):=by simp [S.l_toStringSo,S.l_toStringS,hr xs[i] (List.getElem_mem hi)]
  simp only[hd0_length,hlen,e1,e1',e2,decide_true,if_true];rw[wr (by omega) (by omega),getD_cast xs i _ hi,es,Option.bind_some];simp only[hd0_dup_set,nrm_store,Bool.false_eq_true,if_false];rw[<-hg];congr 1;have e3:xs.length - i+m=(xs.length - (i+1)+m)+1:=by omega
  have e4:(0+(i:Int).toNat)=((xs.take i).map (tos spare bare)).length:=by simp;omega
  rw[e3,e4,set_fill];have e5:(xs.take (i+1)).map (tos spare bare)=(xs.take i).map (tos spare bare)++[tos spare bare xs[i]]:=by rw[<-List.take_append_getElem hi,List.map_append];rfl
  rw[e5];rfl) (fun g=>by
  unfold P.l_toStringSSo_b2;dsimp only;have e1:¬(xs.length:Int)<(xs.length:Int):=by omega
  simp only[e1,decide_false,hd0_dup,nrm_hd0,Bool.false_eq_true,if_false];have:=toStringSSo_b8 xs (xs.map (tos spare bare)) m xs.length k0 rfl (by simp) hl hm hk0;simpa using this) hk
 simpa using key
theorem S.l_toStringSSo_ok (x r) (h:S.l_toStringSSo x=some r):∃k,P.l_toStringSSo k x=some r:=by
 obtain⟨xs,bare,u⟩:=x;unfold S.l_toStringSSo S.l_toStringSS at h;dsimp only at h;split at h
 case isFalse=>cases h
 rename_i hl;have hl1:=hl.1;cases h;refine⟨xs.length+2,?_⟩;have hr:=rb_le xs.length;have e0:S.l_roomBehind ((xs.length:Int),())=some (rb xs.length,()):=by
  unfold S.l_roomBehind P.l_roomBehind rb;simp only[beq_iff_eq];split
  ·rfl
  ·split<;>rfl
 have e1:(0:Int)<=(xs.length:Int)+rb xs.length:=by omega
 have e3:((xs.length:Int)+rb xs.length)*24<=281474976710656:=by omega
 have e4:((xs.length:Int)+rb xs.length).toNat=xs.length+(rb xs.length).toNat:=by omega
 have hb:P.l_toStringSSo_b15=P.l_toStringSSo_b2:=rfl;have key:=fun b=>toStringSSo_b2 (xs.length+2) b xs (rb xs.length).toNat (xs.length+2) hl (by omega) (by omega) (by omega)
 unfold P.l_toStringSSo tos2;dsimp only;rw[e0,hb];simp only[Option.bind_some];rw[wr (by omega) (by omega)];simp only[e1,e3,e4,Int.le_refl,decide_true,if_true,hd0_dup,nrm_hd0,key,Bool.false_eq_true,if_false];cases bare with
 |true=>
  simp only[if_true]
  by_cases hx:xs=[]
  ·subst hx;rfl
  ·have hx':¬((((xs.length:Nat):Int)==0)=true):=by
    simp [hx]
   rw[if_neg hx',if_neg (by simp [hx])]
 |false=>
  simp only[Bool.false_eq_true,if_false,false_and]
def P.l_toChaino (k:Nat) (x:List (List ByteArray)×Bool×Unit):Option ((List (List ByteArray×Nat)×Nat)×Unit):=
 (S.l_toStringSSo (x.1,x.2.1,())).bind fun y0=>if dup (List.map (fun(y1:Nat×Nat)=>y1.1) (hd0 y0.1.1))then none else some ((nrm (hd0 y0.1.1) (in0 y0.1.1),y0.1.2),())
def S.l_toChaino (x:((List (List ByteArray))×(Bool×Unit))):(Option (((List ((List ByteArray)×Nat))×Nat)×Unit)):=P.l_toChaino 0 x
theorem S.l_toChaino_ok (x r) (h:S.l_toChaino x=some r):∃k,P.l_toChaino k x=some r:=⟨0,h⟩
abbrev P.l_heldStringS_b0 (x1:Int×List ByteArray×Int×Unit) (g2:Int×List ByteArray×Int×Unit->Option (Int×Unit)):Option (Int×Unit):=
 if decide (x1.1<(x1.2.1.length:Int))then if decide (0<=x1.1)then if decide (x1.1<(x1.2.1.length:Int))then(S.l_markText (x1.2.2.1,())).bind fun y3=>if ! ((ByteArray.toList (x1.2.1.getD x1.1.toNat (bs [])))==(ByteArray.toList y3.1))then some ((-1:Int),())else g2 (wrap .i64 (x1.1+1),x1.2.1,wrap .i64 (x1.2.2.1+1),())else none else none else some (x1.2.2.1,())
def P.l_heldStringS (k:Nat) (x:List ByteArray×Int×Unit):Option (Int×Unit):=
 loopP P.l_heldStringS_b0 k (0,x.1,x.2.1,())
open Classical in
def S.l_heldStringS (x:((List ByteArray)×(Int×Unit))):(Option (Int×Unit)):=if 0<=x.2.1/\x.2.1<=100000000/\x.1.length<=10000000/\x.1=marks x.2.1 x.1.length then some (x.2.1+(x.1.length:Int),())else none
theorem S.l_heldStringS_ok (x r) (h:S.l_heldStringS x=some r):∃k,P.l_heldStringS k x=some r:=by
 obtain⟨xs,q,u⟩:=x;unfold S.l_heldStringS at h;dsimp only at h;split at h
 case isFalse=>cases h
 rename_i hc;obtain⟨h0,h1,h2,h3⟩:=hc;cases h;refine⟨xs.length+1,?_⟩;unfold P.l_heldStringS;have key:=loop_up0 (k:=xs.length+1) (b:=P.l_heldStringS_b0) (n:=xs.length) (st:=fun i=>((i:Int),(xs,(q+(i:Int),())))) (F:=fun i=>some (q+(xs.length:Int),())) (fun i g hi hg=>by
  unfold P.l_heldStringS_b0;dsimp only at hg ⊢;have e1:(i:Int)<(xs.length:Int):=by omega
  have e2:(0:Int)<=(i:Int):=by omega
  have hx:xs[i]=mkT (q+(i:Int)):=by
   have:=marks_get q xs.length i hi;rw[<-this];congr 1
  rw[if_pos (decide_eq_true e1),if_pos (decide_eq_true e2),if_pos (decide_eq_true e1),mkT_eq (by omega) (by omega),Option.bind_some,getD_cast xs i _ hi,hx];dsimp only;rw[beq_self_eq_true,if_neg (by decide),wr (by omega) (by omega),wr (by omega) (by omega),show(i:Int)+1=((i+1:Nat):Int) by omega,show q+(i:Int)+1=q+((i+1:Nat):Int) by omega];exact hg) (fun g=>by
  unfold P.l_heldStringS_b0;dsimp only;rw[if_neg (by simp)]) (by omega)
 refine Eq.trans ?_ key;rw[show q+((0:Nat):Int)=q by omega];rfl
abbrev P.l_heldStringSS_b0 (x1:Int×List (List ByteArray)×Int×Unit) (g2:Int×List (List ByteArray)×Int×Unit->Option (Int×Unit)):Option (Int×Unit):=
 if decide (x1.1<(x1.2.1.length:Int))then if decide (0<=x1.1)then if decide (x1.1<(x1.2.1.length:Int))then(S.l_heldStringS (x1.2.1.getD x1.1.toNat [],x1.2.2.1,())).bind fun y3=>if decide (y3.1<0)then some ((-1:Int),())else g2 (wrap .i64 (x1.1+1),x1.2.1,y3.1,())else none else none else some (x1.2.2.1,())
def P.l_heldStringSS (k:Nat) (x:List (List ByteArray)×Int×Unit):Option (Int×Unit):=
 loopP P.l_heldStringSS_b0 k (0,x.1,x.2.1,())
def mkV (q:Int):List Nat->List (List ByteArray)
 | []=>[]
 |n::ns=>marks q n::mkV (q+(n:Int)) ns
theorem mkV_len (q:Int) (ns:List Nat):(mkV q ns).length=ns.length:=by
 induction ns generalizing q with
 |nil=>rfl
 |cons n ns ih=>rw[mkV,List.length_cons,ih,List.length_cons]
theorem mkV_lens (q:Int) (ns:List Nat):(mkV q ns).map List.length=ns:=by
 induction ns generalizing q with
 |nil=>rfl
 |cons n ns ih=>rw[mkV,List.map_cons,ih,marks_len]
theorem mkV_get (q:Int) (ns:List Nat) (i:Nat) (h:i<ns.length):(mkV q ns)[i]'(by rw[mkV_len];exact h)=marks (q+((ns.take i).sum:Int)) ns[i]:=by
 induction ns generalizing q i with
 |nil=>simp at h
 |cons n ns ih=>
  cases i with
  |zero=>simp [mkV]
  |succ i=>
   simp only[mkV,List.getElem_cons_succ,List.take_succ_cons,List.sum_cons];rw[ih _ _ (by simpa using h)];congr 1;rw[Int.natCast_add];omega
def S.l_heldStringSS (x:((List (List ByteArray))×(Int×Unit))):(Option (Int×Unit)):=if 0<=x.2.1/\x.2.1<=1000000/\(x.1.map List.length).sum<=1000000/\x.1.length<=1000000/\x.1=mkV x.2.1 (x.1.map List.length)then some (x.2.1+((x.1.map List.length).sum:Int),())else none
theorem S.l_heldStringSS_ok (x r) (h:S.l_heldStringSS x=some r):∃k,P.l_heldStringSS k x=some r:=by
 obtain⟨xs,q,u⟩:=x;unfold S.l_heldStringSS at h;dsimp only at h;split at h
 case isFalse=>cases h
 rename_i hc;obtain⟨h0,h1,h2,h3,h4⟩:=hc;cases h;generalize xs.map List.length=ns at*;subst h4;rw[mkV_len]at h3;refine⟨ns.length+1,?_⟩;unfold P.l_heldStringSS;dsimp only;have key:=loop_up0 (k:=ns.length+1) (b:=P.l_heldStringSS_b0) (n:=ns.length) (st:=fun i=>((i:Int),(mkV q ns,(q+((ns.take i).sum:Int),())))) (F:=fun i=>some (q+(ns.sum:Int),())) (fun i g hi hg=>by
  unfold P.l_heldStringSS_b0;dsimp only at hg ⊢;have hl:i<(mkV q ns).length:=by rw[mkV_len];exact hi
  have e1:(i:Int)<((mkV q ns).length:Int):=by omega
  have e2:(0:Int)<=(i:Int):=by omega
  have es:(ns.take i).sum+ns[i]=(ns.take (i+1)).sum:=by
   rw[<-List.take_append_getElem hi,List.sum_append];simp
  have et:(ns.take (i+1)).sum<=ns.sum:=by
   have:ns.sum=(ns.take (i+1)).sum+(ns.drop (i+1)).sum:=by rw[<-List.sum_append,List.take_append_drop]
   omega
  have eh:S.l_heldStringS (marks (q+((ns.take i).sum:Int)) ns[i],(q+((ns.take i).sum:Int),()))=some (q+((ns.take (i+1)).sum:Int),()):=by
   unfold S.l_heldStringS;dsimp only;rw[marks_len,if_pos ⟨by omega,by omega,by omega,rfl⟩,<-es];congr 2;omega
  rw[if_pos (decide_eq_true e1),if_pos (decide_eq_true e2),if_pos (decide_eq_true e1),getD_cast _ i _ hl,mkV_get q ns i hi,eh,Option.bind_some,if_neg (by simp;omega),wr (by omega) (by omega)];exact hg) (fun g=>by
  unfold P.l_heldStringSS_b0;dsimp only;rw[if_neg (by rw[mkV_len];simp),List.take_length]) (by omega)
 refine Eq.trans ?_ key;simp
def P.l_heldChain (k:Nat) (x:List (List ByteArray)×Int×Unit):Option (Int×Unit):=
 (S.l_heldStringSS (x.1,x.2.1,())).bind fun y0=>if decide (y0.1<0)then some ((-1:Int),())else some (y0.1,())
def S.l_heldChain (x:((List (List ByteArray))×(Int×Unit))):(Option (Int×Unit)):=P.l_heldChain 0 x
theorem S.l_heldChain_ok (x r) (h:S.l_heldChain x=some r):∃k,P.l_heldChain k x=some r:=⟨0,h⟩
abbrev P.s_l01Nat_b0 (x1:Int×List Int×Unit) (g2:Int×List Int×Unit->Option (List Int×Unit)):Option (List Int×Unit):=
 if decide (x1.1>0)then if decide (((x1.2.1.length+(List.length [Int.tmod x1.1 1000000000]))*8)<=140737488355328)then g2 (wrap .i64 (Int.tdiv x1.1 1000000000),x1.2.1++[Int.tmod x1.1 1000000000],())else none else some (x1.2.1,())
def P.s_l01Nat (k:Nat) (x:Int×Unit):Option (List Int×Unit):=
 loopP P.s_l01Nat_b0 k (x.1,[],())
def S.s_l01Nat (x:(Int×Unit)):(Option ((List Int)×Unit)):=if 0<=x.1/\x.1<=9223372036854775807 then some (nd B10 x.1.toNat,())else none
theorem l01Nat_loop (k:Nat):∀(n:Nat) (out:List Int),n<2^k->n<=9223372036854775807->out.length+k<=1000000->loopP (X:=(Int×((List Int)×Unit))) (R:=((List Int)×Unit)) P.s_l01Nat_b0 (k+1) ((n:Int),(out,()))=some (out++nd B10 n,()):=by
 induction k with
 |zero=>
  intro n out hn _ _;have:n=0:=by omega
  subst this;rw[loopP_succ];unfold P.s_l01Nat_b0;rw[if_neg (by simp),nd_zero B10_le,List.append_nil]
 |succ k ih=>
  intro n out hn hm ho;rw[loopP_succ];unfold P.s_l01Nat_b0;dsimp only
  by_cases h:n=0
  ·subst h;rw[if_neg (by simp),nd_zero B10_le,List.append_nil]
  ·have e1:(n:Int)>0:=by omega
   have e2:(out.length+(Int.tmod (n:Int) 1000000000::([]:List Int)).length)*8<=140737488355328:=by simp;omega
   rw[if_pos (decide_eq_true e1),if_pos (decide_eq_true e2)];have eT:Int.tdiv (n:Int) 1000000000=((n/1000000000:Nat):Int):=by rw[Int.tdiv_eq_ediv_of_nonneg (by omega)];omega
   have eM:Int.tmod (n:Int) 1000000000=((n%1000000000:Nat):Int):=by rw[Int.tmod_eq_emod_of_nonneg (by omega)];omega
   rw[eT,eM,wr (by omega) (by omega),ih (n/1000000000) _ (by rw[Nat.pow_succ]at hn;omega) (by omega) (by simp;omega),nd_pos B10_le h,List.append_assoc];rfl
theorem S.s_l01Nat_ok (x r) (h:S.s_l01Nat x=some r):∃k,P.s_l01Nat k x=some r:=by
 obtain⟨n,u⟩:=x;unfold S.s_l01Nat at h;dsimp only at h;split at h
 case isFalse=>cases h
 rename_i hc;cases h;refine⟨64,?_⟩;unfold P.s_l01Nat;dsimp only;have:=l01Nat_loop 63 n.toNat [] (by
  have:(2:Nat)^63=9223372036854775808:=by decide
  omega) (by omega) (by simp)
 rw[show((n.toNat:Nat):Int)=n by omega]at this;exact this
def P.s_l01Int (k:Nat) (x:Int×Unit):Option (RB×Unit):=
 if decide (x.1<0)then(S.s_l01Nat (wrap .i64 (0 - x.1),())).bind fun y0=>some ((true,y0.1,[1]),())else(S.s_l01Nat (x.1,())).bind fun y1=>some ((false,y1.1,[1]),())
def S.s_l01Int (x:(Int×Unit)):(Option (RB×Unit)):=if -9223372036854775807<=x.1/\x.1<=9223372036854775807 then some (rp B10 (wholeQ x.1),())else none
theorem S.s_l01Int_ok (x r) (h:S.s_l01Int x=some r):∃k,P.s_l01Int k x=some r:=by
 obtain⟨n,u⟩:=x;unfold S.s_l01Int at h;dsimp only at h;split at h
 case isFalse=>cases h
 rename_i hc;cases h;refine⟨0,?_⟩;unfold P.s_l01Int S.s_l01Nat rp wholeQ;dsimp only;rw[nd_one B10_le]
 by_cases h0:n<0
 ·rw[if_pos (decide_eq_true h0),wr (by omega) (by omega),if_pos ⟨by omega,by omega⟩,Option.bind_some,decide_eq_true h0,show(0 - n).toNat=n.natAbs by omega]
 ·rw[if_neg (by simpa using h0),if_pos ⟨by omega,by omega⟩,Option.bind_some,decide_eq_false h0,show n.toNat=n.natAbs by omega]
def P.s_l01None (k:Nat) (x:Unit):Option (RB×Unit):=
 (S.s_l01Int (0,())).bind fun y0=>some ((y0.1.1,y0.1.2.1,y0.1.2.2),())
def S.s_l01None (x:Unit):(Option (RB×Unit)):=P.s_l01None 0 x
theorem S.s_l01None_ok (x r) (h:S.s_l01None x=some r):∃k,P.s_l01None k x=some r:=⟨0,h⟩
abbrev P.s_l01Cmp_b0 (x1:Int×List Int×List Int×Unit) (g2:Int×List Int×List Int×Unit->Option (Int×Unit)):Option (Int×Unit):=
 (fun(a:Int) (b c:List Int)=>if decide (a>=0)then if decide (0<=a)then if decide (a<(b.length:Int))then if decide (0<=a)then if decide (a<(c.length:Int))then if(b.getD a.toNat 0) != (c.getD a.toNat 0)then if decide (0<=a)then if decide (a<(b.length:Int))then if decide (0<=a)then if decide (a<(c.length:Int))then if decide ((b.getD a.toNat 0)<(c.getD a.toNat 0))then some ((-1:Int),())else some (1,())else none else none else none else none else g2 (wrap .i64 (a - 1),b,c,())else none else none else none else none else some (0,())) x1.1 x1.2.1 x1.2.2.1
def P.s_l01Cmp (k:Nat) (x:List Int×List Int×Unit):Option (Int×Unit):=
 if(x.1.length:Int) != (x.2.1.length:Int)then if decide ((x.1.length:Int)<(x.2.1.length:Int))then some ((-1:Int),())else some (1,())else loopP P.s_l01Cmp_b0 k (wrap .i64 ((x.1.length:Int) - 1),x.1,x.2.1,())
def S.s_l01Cmp (x:((List Int)×((List Int)×Unit))):(Option (Int×Unit)):=if canon B10 x.1=true/\canon B10 x.2.1=true/\x.1.length<=1000000000000 then some (cmpN (dval B10 x.1) (dval B10 x.2.1),())else none
theorem S.s_l01Cmp_ok (x r) (h:S.s_l01Cmp x=some r):∃k,P.s_l01Cmp k x=some r:=by
 obtain⟨xs,ys,u⟩:=x;unfold S.s_l01Cmp at h;dsimp only at h;split at h
 case isFalse=>cases h
 rename_i hc;obtain⟨cx,cy,hl⟩:=hc;cases h;refine⟨xs.length+1,?_⟩;unfold P.s_l01Cmp;dsimp only
 by_cases hn:xs.length=ys.length
 ·rw[if_neg (by simp [hn]),wr (by omega) (by omega)];have key:=loop_up0 (k:=xs.length+1) (b:=P.s_l01Cmp_b0) (n:=xs.length) (st:=fun j=>((xs.length:Int) - 1 - (j:Int),xs,ys,())) (F:=fun j=>some (cmpN (dval B10 (xs.take (xs.length - j))) (dval B10 (ys.take (xs.length - j))),())) (fun j g hj hg=>by
   unfold P.s_l01Cmp_b0;dsimp only at hg ⊢;have e1:(xs.length:Int) - 1 - (j:Int)>=0:=by omega
   have e3:(0:Int)<=(xs.length:Int) - 1 - (j:Int):=by omega
   have e4:(xs.length:Int) - 1 - (j:Int)<(xs.length:Int):=by omega
   have e4':(xs.length:Int) - 1 - (j:Int)<(ys.length:Int):=by omega
   simp only[e1,e4,e4',decide_true,if_true];have hi:xs.length - (j+1)<xs.length:=by omega
   have hi':xs.length - (j+1)<ys.length:=by omega
   have e5:(xs.length:Int) - 1 - (j:Int)=((xs.length - (j+1):Nat):Int):=by omega
   have e6:xs.length - j=(xs.length - (j+1))+1:=by omega
   rw[e5,getD_cast xs _ _ hi,getD_cast ys _ _ hi',e6];generalize xs.length - (j+1)=i at*
   by_cases hq:xs[i]=ys[i]
   ·rw[if_neg (by simp [hq]),wr (by omega) (by omega)];have e7:((i:Nat):Int) - 1=(xs.length:Int) - 1 - ((j+1:Nat):Int):=by omega
    rw[e7,hg,<-List.take_append_getElem hi,<-List.take_append_getElem hi',dval_append,dval_append,hq];have hlx:(xs.take i).length=i:=by simp;omega
    have hly:(ys.take i).length=i:=by simp;omega
    rw[hlx,hly];unfold cmpN;simp only[Nat.add_lt_add_iff_right]
   ·rw[if_pos (by simp [hq])]
    by_cases hlt:xs[i]<ys[i]
    ·have:=dval_top xs ys i hi hi' (canon_dig cx) (canon_dig cy) hlt;rw[if_pos (decide_eq_true hlt),cmpN,if_pos this]
    ·have:=dval_top ys xs i hi' hi (canon_dig cy) (canon_dig cx) (by omega);rw[if_neg (by simpa using hlt),cmpN,if_neg (by omega),if_pos this]) (fun g=>by
   unfold P.s_l01Cmp_b0;dsimp only;rw[if_neg (by simp;omega),Nat.sub_self,List.take_zero,List.take_zero];rfl) (by omega)
  rw[show(xs.length:Int) - 1 - ((0:Nat):Int)=(xs.length:Int) - 1 by omega,Nat.sub_zero,List.take_length,List.take_of_length_le (by omega)]at key;exact key
 ·rw[if_pos (by simp;omega)]
  by_cases hlt:xs.length<ys.length
  ·rw[if_pos (decide_eq_true (by omega)),cmpN,if_pos (canon_small B10_le cx cy hlt)]
  ·have:=canon_small B10_le cy cx (by omega);rw[if_neg (by simp;omega),cmpN,if_neg (by omega),if_pos this]
abbrev P.s_l01Trim_b0 (x1:List Int×Unit) (g2:List Int×Unit->Option (List Int×Unit)):Option (List Int×Unit):=
 if decide ((x1.1.length:Int)>0)then if decide (0<=(wrap .i64 ((x1.1.length:Int) - 1)))then if decide ((wrap .i64 ((x1.1.length:Int) - 1))<(x1.1.length:Int))then if(x1.1.getD (Int.toNat (wrap .i64 ((x1.1.length:Int) - 1))) 0)==0 then if decide (0<=(wrap .i64 ((x1.1.length:Int) - 1)))then if decide ((wrap .i64 ((x1.1.length:Int) - 1))<=(x1.1.length:Int))then if decide (0<=(wrap .i64 ((x1.1.length:Int) - 1)))then g2 (seen x1.1 0 ((Int.toNat (wrap .i64 ((x1.1.length:Int) - 1))) - 0),())else none else none else none else some (x1.1,())else none else none else some (x1.1,())
def P.s_l01Trim (k:Nat) (x:List Int×Unit):Option (List Int×Unit):=
 loopP P.s_l01Trim_b0 k (x.1,())
theorem trim_loopS (n:Nat):∀(xs:List Int) (k:Nat),xs.length=n->n<k->n<=1000000000000->dig B10 xs=true->loopP (X:=((List Int)×Unit)) (R:=((List Int)×Unit)) P.s_l01Trim_b0 k (xs,())=some (nd B10 (dval B10 xs),()):=by
 induction n with
 |zero=>
  intro xs k hx hk _ _;have:xs=[]:=List.eq_nil_of_length_eq_zero hx;subst this;obtain⟨k,rfl⟩:∃j,k=j+1:=⟨k - 1,by omega⟩
  rw[loopP_succ];unfold P.s_l01Trim_b0;rw[if_neg (by simp)];rw[show dval B10 []=0 from rfl,nd_zero B10_le]
 |succ n ih=>
  intro xs k hx hk hn hd;obtain⟨k,rfl⟩:∃j,k=j+1:=⟨k - 1,by omega⟩
  rw[loopP_succ];unfold P.s_l01Trim_b0;dsimp only;have e0:IntKind.wrap .i64 ((xs.length:Int) - 1)=(n:Int):=by rw[wr (by omega) (by omega)];omega
  have e1:(xs.length:Int)>0:=by omega
  have e2:(0:Int)<=(n:Int):=by omega
  have e3:(n:Int)<(xs.length:Int):=by omega
  have e4:(n:Int)<=(xs.length:Int):=by omega
  rw[e0];simp only[e1,e2,e3,e4,decide_true,if_true];rw[getD_cast xs n _ (by omega)];have hs:=take_snoc xs n hx;have hdt:dig B10 (xs.take n++[xs[n]])=true:=by rw[<-hs];exact hd
  by_cases hz:xs[n]=0
  ·rw[if_pos (by simp [hz])];have e5:seen xs 0 ((n:Int).toNat - 0)=xs.take n:=by simp [seen]
   rw[e5];have hdt':=hdt;rw[dig_append,Bool.and_eq_true]at hdt';rw[ih (xs.take n) k (by simp;omega) (by omega) (by omega) hdt'.1];have:dval B10 xs=dval B10 (xs.take n):=by
    conv=>lhs;rw[hs,hz]
    exact dval_snoc_zero _
   rw[this]
  ·rw[if_neg (by simp [hz])];have:=nd_snoc B10_le (xs.take n) xs[n] hdt hz;rw[<-hs]at this;rw[this]
def S.s_l01Trim (x:((List Int)×Unit)):(Option ((List Int)×Unit)):=if dig B10 x.1=true/\x.1.length<=1000000000000 then some (nd B10 (dval B10 x.1),())else none
theorem S.s_l01Trim_ok (x r) (h:S.s_l01Trim x=some r):∃k,P.s_l01Trim k x=some r:=by
 obtain⟨xs,u⟩:=x;unfold S.s_l01Trim at h;dsimp only at h;split at h
 case isFalse=>cases h
 rename_i hc;cases h;exact⟨xs.length+1,trim_loopS xs.length xs _ rfl (by omega) hc.2 hc.1⟩
theorem trim_s (xs:List Int) (h:dig B10 xs=true) (hl:xs.length<=1000000000000):S.s_l01Trim (xs,())=some (nd B10 (dval B10 xs),()):=by
 unfold S.s_l01Trim;dsimp only;rw[if_pos ⟨h,hl⟩]
abbrev s_l01NatMul.A:=Int×Int×List Int×Int×List Int×List Int×Int×Int×Int×Unit
abbrev s_l01NatMul.B:=Int×Int×List Int×List Int×List Int×Unit
abbrev s_l01NatMul.C:=Option (List Int×Unit)
abbrev P.s_l01NatMul_b3 (g2:s_l01NatMul.B->s_l01NatMul.C) (x4:s_l01NatMul.A) (g5:s_l01NatMul.A->s_l01NatMul.C):s_l01NatMul.C:=
 (fun(a b d h i j:Int) (c e f:List Int)=>if decide (a<b)then if decide (0<=(wrap .i64 (d+a)))then if decide ((wrap .i64 (d+a))<(c.length:Int))then if decide (0<=d)then if decide (d<(e.length:Int))then if decide (0<=a)then if decide (a<(f.length:Int))then if decide (0<=(wrap .i64 (d+a)))then if decide ((wrap .i64 (d+a))<(c.length:Int))then g5 (wrap .i64 (a+1),b,c.set (0+(Int.toNat (wrap .i64 (d+a)))) (Int.tmod (wrap .i64 ((wrap .i64 ((c.getD (0+(Int.toNat (wrap .i64 (d+a)))) 0)+(wrap .i64 ((e.getD d.toNat 0)*(f.getD a.toNat 0)))))+h)) 1000000000),d,e,f,wrap .i64 (Int.tdiv (wrap .i64 ((wrap .i64 ((c.getD (0+(Int.toNat (wrap .i64 (d+a)))) 0)+(wrap .i64 ((e.getD d.toNat 0)*(f.getD a.toNat 0)))))+h)) 1000000000),i,j,())else none else none else none else none else none else none else none else none else if decide (0<=(wrap .i64 (d+(f.length:Int))))then if decide ((wrap .i64 (d+(f.length:Int)))<(c.length:Int))then if decide (0<=(wrap .i64 (d+(f.length:Int))))then if decide ((wrap .i64 (d+(f.length:Int)))<(c.length:Int))then g2 (wrap .i64 (i+1),j,f,c.set (0+(Int.toNat (wrap .i64 (d+(f.length:Int))))) (wrap .i64 ((c.getD (0+(Int.toNat (wrap .i64 (d+(f.length:Int))))) 0)+h)),e,())else none else none else none else none) x4.1 x4.2.1 x4.2.2.2.1 x4.2.2.2.2.2.2.1 x4.2.2.2.2.2.2.2.1 x4.2.2.2.2.2.2.2.2.1 x4.2.2.1 x4.2.2.2.2.1 x4.2.2.2.2.2.1
abbrev P.s_l01NatMul_b0 (k:Nat) (x1:s_l01NatMul.B) (g2:s_l01NatMul.B->s_l01NatMul.C):s_l01NatMul.C:=
 if decide (x1.1<x1.2.1)then loopP (P.s_l01NatMul_b3 g2) k (0,(x1.2.2.1.length:Int),x1.2.2.2.1,x1.1,x1.2.2.2.2.1,x1.2.2.1,0,x1.1,x1.2.1,())else(S.s_l01Trim (x1.2.2.2.1,())).bind fun y6=>some (y6.1,())
def P.s_l01NatMul (k:Nat) (x:List Int×List Int×Unit):s_l01NatMul.C:=
 if decide (0<=(wrap .i64 ((x.1.length:Int)+(x.2.1.length:Int))))then if decide ((wrap .i64 ((x.1.length:Int)+(x.2.1.length:Int)))<=(wrap .i64 ((x.1.length:Int)+(x.2.1.length:Int))))then if decide (((wrap .i64 ((x.1.length:Int)+(x.2.1.length:Int)))*8)<=281474976710656)then loopP (P.s_l01NatMul_b0 k) k (0,(x.1.length:Int),x.2.1,List.replicate (Int.toNat (wrap .i64 ((x.1.length:Int)+(x.2.1.length:Int)))) 0,x.1,())else none else none else none
theorem sm_inner (g:(Int×(Int×((List Int)×((List Int)×((List Int)×Unit)))))->(Option ((List Int)×Unit))) (F:Option ((List Int)×Unit)) {xs ys:List Int} (hx:dig B10 xs=true) (hy:dig B10 ys=true) (hlx:xs.length<=10000000000) (hly:ys.length<=10000000000) {i:Nat} (hi:i<xs.length) (K:Nat) (hK:ys.length<K)
  (hg:g (((i+1:Nat):Int),((xs.length:Int),(ys,(fd B10 (xs.length+ys.length) (dval B10 (xs.take (i+1))*dval B10 ys),(xs,())))))=F):
  loopP (P.s_l01NatMul_b3 g) K ((0:Int),((ys.length:Int),(fd B10 (xs.length+ys.length) (dval B10 (xs.take i)*dval B10 ys),((i:Int),(xs,(ys,((0:Int),((i:Int),((xs.length:Int),())))))))))=F:=by
 have hA:=mul_bound B10_le hx hy i (by omega);have hA':=mul_bound B10_le hx hy (i+1) (by omega);have gx:=dig_getD (B:=B10) (by decide) hx i;have gx1:xs.getD i 0<1000000000:=gx.2;have gx0:=gx.1;rw[dval_take_succ,Nat.add_mul,Nat.mul_assoc]at hg hA';generalize dval B10 (xs.take i)*dval B10 ys=A at*;obtain⟨x,hxe⟩:∃x:Nat,xs.getD i 0=(x:Int):=⟨(xs.getD i 0).toNat,by omega⟩
 rw[hxe,Int.toNat_natCast]at hg hA';rw[hxe]at gx1;have hxB:x<B10:=by show x<1000000000;omega
 have hsh:=mul_shape B10_le hi hA;rw[hsh];have hlw:(fd B10 ys.length (A/B10^i)).length=ys.length:=fd_len _ _ _;have hdw:dig B10 (fd B10 ys.length (A/B10^i))=true:=dig_fd (by decide) _ _;have hvw:dval B10 (fd B10 ys.length (A/B10^i))=A/B10^i:=by
  rw[dval_fd,Nat.mod_eq_of_lt];rw[Nat.div_lt_iff_lt_mul (Nat.pow_pos (by decide)),<-Nat.pow_add,Nat.add_comm];exact hA
 have hnext:=mul_next B10_le (la:=xs.length) (lb:=ys.length) (R:=x*dval B10 ys) hi hA';generalize hR:List.replicate (xs.length - 1 - i) (0:Int)=R at*;have hRl:R.length=xs.length - 1 - i:=by rw[<-hR,List.length_replicate]
 generalize hW:fd B10 ys.length (A/B10^i)=W at*;have hl0:(fd B10 i A).length=i:=fd_len _ _ _;have key:=loop_up0 (k:=K) (b:=P.s_l01NatMul_b3 g) (n:=ys.length) (st:=fun k=>((k:Int),(ys.length:Int),(fd B10 i A++(maUp B10 x W ys k).1)++(W.drop k++(0:Int)::R),(i:Int),xs,ys,((maUp B10 x W ys k).2:Int),(i:Int),(xs.length:Int),())) (F:=fun k=>F) (fun k g' hk hg'=>by
  unfold P.s_l01NatMul_b3;dsimp only at hg' ⊢;refine Eq.trans ?_ hg';clear hg';obtain⟨q1,q2,q3,q4⟩:=maUp_ok (x:=x) B10_le hxB hdw hy k;have q4':(maUp B10 x W ys k).2<1000000000:=q4;have gy:=dig_getD (B:=B10) (by decide) hy k;have gw:=dig_getD (B:=B10) (by decide) hdw k;have gy1:ys.getD k 0<1000000000:=gy.2;have gw1:W.getD k 0<1000000000:=gw.2;have gy0:=gy.1;have gw0:=gw.1;have hAl:(fd B10 i A++(maUp B10 x W ys k).1).length=i+k:=by rw[List.length_append,hl0,q2]
  have hlen:((fd B10 i A++(maUp B10 x W ys k).1)++(W.drop k++(0:Int)::R)).length=xs.length+ys.length:=by
   rw[List.length_append,hAl,List.length_append,List.length_drop,List.length_cons,hlw,hRl];omega
  have e1:(k:Int)<(ys.length:Int):=by omega
  have e2:(0:Int)<=(k:Int):=by omega
  have e3:(0:Int)<=((i+k:Nat):Int):=by omega
  have e4:((i+k:Nat):Int)<((xs.length+ys.length:Nat):Int):=by omega
  have e5:(0:Int)<=(i:Int):=by omega
  have e6:(i:Int)<(xs.length:Int):=by omega
  rw[hlen,<-Int.natCast_add i k,wr (x:=((i+k:Nat):Int)) (by omega) (by omega)];simp only[e1,e2,e3,e4,e5,e6,decide_true,if_true,Nat.zero_add,Int.toNat_natCast];rw[drop_cons_getD (xs:=W) (i:=k) (by omega),List.cons_append,mid_get hAl,hxe];simp only[mid_set hAl];rw[maUp];dsimp only;generalize W.getD k 0=w at*;generalize ys.getD k 0=y at*;generalize maUp B10 x W ys k=p at*;obtain⟨pl,c0⟩:=p;dsimp only at*;obtain⟨Y,rfl⟩:∃Y:Nat,y=(Y:Int):=⟨y.toNat,by omega⟩
  obtain⟨w',rfl⟩:∃Y:Nat,w=(Y:Int):=⟨w.toNat,by omega⟩
  rw[Int.toNat_natCast,Int.toNat_natCast];have hxY:x*Y<=999999999*999999999:=Nat.mul_le_mul (by omega) (by omega);rw[<-Int.natCast_mul,wr (x:=((x*Y:Nat):Int)) (by omega) (by omega),<-Int.natCast_add,wr (x:=((w'+x*Y:Nat):Int)) (by omega) (by omega),<-Int.natCast_add,wr (x:=((w'+x*Y+c0:Nat):Int)) (by omega) (by omega),Int.tdiv_eq_ediv_of_nonneg (by omega),Int.tmod_eq_emod_of_nonneg (by omega),wr (x:=(k:Int)+1) (by omega) (by omega)];have e8:((w'+x*Y+c0:Nat):Int)%1000000000=(((c0+(x*Y+w'))%B10:Nat):Int):=by
   show _=(((c0+(x*Y+w'))%1000000000:Nat):Int)
   omega
  have e9:((w'+x*Y+c0:Nat):Int)/1000000000=(((c0+(x*Y+w'))/B10:Nat):Int):=by
   show _=(((c0+(x*Y+w'))/1000000000:Nat):Int)
   omega
  have e10:(c0+(x*Y+w'))/B10<=4000000000:=by
   show(c0+(x*Y+w'))/1000000000<=_;omega
  rw[e8,e9,wr (x:=(((c0+(x*Y+w'))/B10:Nat):Int)) (by omega) (by omega),<-List.append_assoc (fd B10 i A)];rfl) (fun g'=>by
  unfold P.s_l01NatMul_b3;dsimp only;obtain⟨q1,q2,q3,q4⟩:=maUp_ok (x:=x) B10_le hxB hdw hy ys.length;have q4':(maUp B10 x W ys ys.length).2<1000000000:=q4;rw[List.take_length,<-hlw,List.take_length,hlw,hvw]at q3;have hAl:(fd B10 i A++(maUp B10 x W ys ys.length).1).length=i+ys.length:=by rw[List.length_append,hl0,q2]
  have hlen:((fd B10 i A++(maUp B10 x W ys ys.length).1)++(W.drop ys.length++(0:Int)::R)).length=xs.length+ys.length:=by
   rw[List.length_append,hAl,List.length_append,List.length_drop,List.length_cons,hlw,hRl];omega
  have e1:¬((ys.length:Int)<(ys.length:Int)):=by omega
  have e3:(0:Int)<=((i+ys.length:Nat):Int):=by omega
  have e4:((i+ys.length:Nat):Int)<((xs.length+ys.length:Nat):Int):=by omega
  rw[hlen,<-Int.natCast_add i ys.length,wr (x:=((i+ys.length:Nat):Int)) (by omega) (by omega)];simp only[e1,e3,e4,decide_true,decide_false,if_true,if_false,Bool.false_eq_true,Nat.zero_add,Int.toNat_natCast];rw[List.drop_of_length_le (by omega),List.nil_append,mid_get hAl,mid_set hAl,Int.zero_add,wr (x:=((maUp B10 x W ys ys.length).2:Int)) (by omega) (by omega),wr (x:=(i:Int)+1) (by omega) (by omega)];generalize maUp B10 x W ys ys.length=p at*;obtain⟨pl,c0⟩:=p;dsimp only at*;have hlt:=dval_lt q1;rw[q2]at hlt;have hpl:pl=fd B10 ys.length (A/B10^i+x*dval B10 ys):=by
   have:=fd_eq B10_le q1 q2 rfl;rw[this,<-q3,<-fd_mod B10 ys.length (_+_),Nat.add_mul_mod_self_left,fd_mod]
  have hc0:c0=(A/B10^i+x*dval B10 ys)/B10^ys.length:=by
   rw[<-q3,Nat.add_mul_div_left _ _ (Nat.pow_pos (by decide)),Nat.div_eq_of_lt hlt,Nat.zero_add]
  rw[List.append_assoc _ [_],List.singleton_append,hpl,hc0,hnext];exact hg) hK
 rw[show(fd B10 i A++(maUp B10 x W ys 0).1)++(W.drop 0++(0:Int)::R)=(fd B10 i A++W)++(0:Int)::R by rw[show(maUp B10 x W ys 0).1=[]from rfl,List.append_nil,List.drop_zero,List.append_assoc]]at key;exact key
def S.s_l01NatMul (x:((List Int)×((List Int)×Unit))):(Option ((List Int)×Unit)):=if dig B10 x.1=true/\dig B10 x.2.1=true/\x.1.length<=10000000000/\x.2.1.length<=10000000000 then some (nd B10 (dval B10 x.1*dval B10 x.2.1),())else none
theorem S.s_l01NatMul_ok (x r) (h:S.s_l01NatMul x=some r):∃k,P.s_l01NatMul k x=some r:=by
 obtain⟨xs,ys,u⟩:=x;unfold S.s_l01NatMul at h;dsimp only at h;split at h
 case isFalse=>cases h
 rename_i hc;obtain⟨dx,dy,lx,ly⟩:=hc;cases h;refine⟨xs.length+ys.length+1,?_⟩;unfold P.s_l01NatMul;dsimp only;have a1:(0:Int)<=((xs.length+ys.length:Nat):Int):=by omega
 have a2:((xs.length+ys.length:Nat):Int)*8<=281474976710656:=by omega
 rw[<-Int.natCast_add,wr (x:=((xs.length+ys.length:Nat):Int)) (by omega) (by omega)];simp only[a1,a2,decide_true,if_true,Int.le_refl,Int.toNat_natCast];have key:=loop_up0 (k:=xs.length+ys.length+1) (b:=P.s_l01NatMul_b0 (xs.length+ys.length+1)) (n:=xs.length) (st:=fun i=>((i:Int),(xs.length:Int),ys,fd B10 (xs.length+ys.length) (dval B10 (xs.take i)*dval B10 ys),xs,())) (F:=fun i=>some (nd B10 (dval B10 xs*dval B10 ys),())) (fun i g hi hg=>by
  unfold P.s_l01NatMul_b0;dsimp only at hg ⊢;have e1:(i:Int)<(xs.length:Int):=by omega
  simp only[e1,decide_true,if_true];exact sm_inner g _ dx dy lx ly hi _ (by omega) hg) (fun g=>by
  unfold P.s_l01NatMul_b0;dsimp only;rw[if_neg (by simp),List.take_length];unfold S.s_l01Trim;dsimp only;have hb:=mul_bound B10_le dx dy xs.length (Nat.le_refl _);rw[List.take_length]at hb;rw[if_pos ⟨dig_fd (by decide) _ _,by rw[fd_len];omega⟩,Option.bind_some,nd_fd B10_le hb]) (by omega)
 rw[List.take_zero,show dval B10 []*dval B10 ys=0 by simp [dval],fd_zero]at key;exact key
def P.s_l01Equal (k:Nat) (x:RB×RB×Unit):Option (Bool×Unit):=
 if x.1.1==x.2.1.1 then(S.s_l01NatMul (x.1.2.1,x.2.1.2.2,())).bind fun y0=>(S.s_l01NatMul (x.2.1.2.1,x.1.2.2,())).bind fun y1=>(S.s_l01Cmp (y0.1,y1.1,())).bind fun y2=>some (y2.1==0,())else some (false,())
def S.s_l01Equal (x:(RB×(RB×Unit))):(Option (Bool×Unit)):=if rok B10 40000000 x.1=true/\rok B10 40000000 x.2.1=true then some (decide ((rv B10 x.1).1=(rv B10 x.2.1).1/\(rv B10 x.1).2.1*(rv B10 x.2.1).2.2=(rv B10 x.2.1).2.1*(rv B10 x.1).2.2),())else none
theorem S.s_l01Equal_ok (x r) (h:S.s_l01Equal x=some r):∃k,P.s_l01Equal k x=some r:=by
 obtain⟨x,y,u⟩:=x;unfold S.s_l01Equal at h;dsimp only at h;split at h
 case isFalse=>cases h
 rename_i hc;obtain⟨n1,p1,q1,rfl,l1,l2⟩:=rok_nd hc.1;obtain⟨n2,p2,q2,rfl,l3,l4⟩:=rok_nd hc.2;rw[rv_nd B10_le,rv_nd B10_le]at h;cases h;refine⟨0,?_⟩;unfold P.s_l01Equal;dsimp only;have em:∀p q,(nd B10 p).length<=40000000->(nd B10 q).length<=40000000->S.s_l01NatMul (nd B10 p,(nd B10 q,()))=some (nd B10 (p*q),()):=by
  intro p q hp hq;unfold S.s_l01NatMul;dsimp only;rw[if_pos ⟨dig_nd B10_le _,dig_nd B10_le _,by omega,by omega⟩,dval_nd B10_le,dval_nd B10_le]
 have ec:S.s_l01Cmp (nd B10 (p1*q2),(nd B10 (p2*q1),()))=some (cmpN (p1*q2) (p2*q1),()):=by
  have:=nd_mul_len B10_le p1 q2;unfold S.s_l01Cmp;dsimp only;rw[if_pos ⟨canon_nd B10_le _,canon_nd B10_le _,by omega⟩,dval_nd B10_le,dval_nd B10_le]
 by_cases hn:n1=n2
 ·rw[if_pos (by simpa using hn),em _ _ l1 l4,Option.bind_some,em _ _ l3 l2,Option.bind_some];dsimp only;rw[ec,Option.bind_some];dsimp only;have hz:=cmpN_zero (a:=p1*q2) (b:=p2*q1)
  by_cases he:p1*q2=p2*q1
  ·rw[decide_eq_true ⟨hn,he⟩,hz.2 he];rfl
  ·rw[decide_eq_false (fun z=>he z.2),beq_eq_false_iff_ne.2 (fun z=>he (hz.1 z))]
 ·rw[if_neg (by simpa using hn),decide_eq_false (fun z=>hn z.1)]
theorem rs_equal {x y:Q3} (hx:low x) (hy:low y) (bx:below 350000000 x) (bY:below 350000000 y):S.s_l01Equal (rp B10 x,(rp B10 y,()))=some (decide (x=y),()):=by
 unfold S.s_l01Equal;dsimp only;rw[if_pos ⟨below_rok9 (by decide) bx (by decide),below_rok9 (by decide) bY (by decide)⟩,rv_rp B10_le,rv_rp B10_le];congr 2;rw[decide_eq_decide];constructor
 ·rintro ⟨h1,h2⟩
  refine qv_inj hx hy ?_;unfold qv;rw[Rat.mkRat_eq_iff (by have:=hx.1;omega) (by have:=hy.1;omega),sgZ_mul,sgZ_mul,h1,h2]
 ·rintro rfl
  exact⟨rfl,rfl⟩
def P.s_l01Digit (k:Nat) (x:List Int×Int×Unit):Option (Int×Unit):=
 if decide (x.2.1<(x.1.length:Int))then if decide (0<=x.2.1)then if decide (x.2.1<(x.1.length:Int))then some (x.1.getD x.2.1.toNat 0,())else none else none else some (0,())
def S.s_l01Digit (x:((List Int)×(Int×Unit))):(Option (Int×Unit)):=P.s_l01Digit 0 x
theorem S.s_l01Digit_ok (x r) (h:S.s_l01Digit x=some r):∃k,P.s_l01Digit k x=some r:=⟨0,h⟩
abbrev P.s_l01NatAdd_b0 (x1:Int×List Int×List Int×Int×List Int×Unit) (g2:Int×List Int×List Int×Int×List Int×Unit->Option (List Int×Unit)):Option (List Int×Unit):=
 (fun(a d:Int) (b c e:List Int)=>if decide (a<(b.length:Int))then(S.s_l01Digit (b,a,())).bind fun y3=>(S.s_l01Digit (c,a,())).bind fun y4=>if decide (((e.length+(List.length [Int.tmod (wrap .i64 ((wrap .i64 (y3.1+y4.1))+d)) 1000000000]))*8)<=140737488355328)then g2 (wrap .i64 (a+1),b,c,wrap .i64 (Int.tdiv (wrap .i64 ((wrap .i64 (y3.1+y4.1))+d)) 1000000000),e++[Int.tmod (wrap .i64 ((wrap .i64 (y3.1+y4.1))+d)) 1000000000],())else none else if decide (a<(c.length:Int))then(S.s_l01Digit (b,a,())).bind fun y5=>(S.s_l01Digit (c,a,())).bind fun y6=>if decide (((e.length+(List.length [Int.tmod (wrap .i64 ((wrap .i64 (y5.1+y6.1))+d)) 1000000000]))*8)<=140737488355328)then g2 (wrap .i64 (a+1),b,c,wrap .i64 (Int.tdiv (wrap .i64 ((wrap .i64 (y5.1+y6.1))+d)) 1000000000),e++[Int.tmod (wrap .i64 ((wrap .i64 (y5.1+y6.1))+d)) 1000000000],())else none else if decide (d>0)then(S.s_l01Digit (b,a,())).bind fun y7=>(S.s_l01Digit (c,a,())).bind fun y8=>if decide (((e.length+(List.length [Int.tmod (wrap .i64 ((wrap .i64 (y7.1+y8.1))+d)) 1000000000]))*8)<=140737488355328)then g2 (wrap .i64 (a+1),b,c,wrap .i64 (Int.tdiv (wrap .i64 ((wrap .i64 (y7.1+y8.1))+d)) 1000000000),e++[Int.tmod (wrap .i64 ((wrap .i64 (y7.1+y8.1))+d)) 1000000000],())else none else some (e,())) x1.1 x1.2.2.2.1 x1.2.1 x1.2.2.1 x1.2.2.2.2.1
def P.s_l01NatAdd (k:Nat) (x:List Int×List Int×Unit):Option (List Int×Unit):=
 loopP P.s_l01NatAdd_b0 k (0,x.1,x.2.1,0,[],())
theorem digit_atA (xs:List Int) (i:Nat) (h:xs.length<=100000000000):S.s_l01Digit (xs,((i:Int),()))=some (xs.getD i 0,()):=by
 unfold S.s_l01Digit P.s_l01Digit;dsimp only
 by_cases hi:(i:Int)<(xs.length:Int)
 ·have h0:(0:Int)<=(i:Int):=by omega
  rw[if_pos (decide_eq_true hi),if_pos (decide_eq_true h0),if_pos (decide_eq_true hi),Int.toNat_natCast]
 ·rw[if_neg (by simpa using hi),List.getD_eq_getElem?_getD,List.getElem?_eq_none (by omega)];rfl
theorem addA_round (xs ys:List Int) (dx:dig B10 xs=true) (dy:dig B10 ys=true) (lx:xs.length<=10000000000) (ly:ys.length<=10000000000) (i:Nat) (hi:i<=100000000000) (hc:i<xs.length\/i<ys.length\/0<(addUp B10 xs ys i).2) (g:(Int×((List Int)×((List Int)×(Int×((List Int)×Unit)))))->Option ((List Int)×Unit)):
  P.s_l01NatAdd_b0 ((i:Int),xs,ys,((addUp B10 xs ys i).2:Int),(addUp B10 xs ys i).1,()) g=g (((i+1:Nat):Int),xs,ys,((addUp B10 xs ys (i+1)).2:Int),(addUp B10 xs ys (i+1)).1,()):=by
 obtain⟨q1,q2,q3,q4⟩:=addUp_ok B10_le dx dy i;have gx:=dig_getD (B:=B10) (by decide) dx i;have gy:=dig_getD (B:=B10) (by decide) dy i;have gx1:xs.getD i 0<1000000000:=gx.2;have gy1:ys.getD i 0<1000000000:=gy.2;have gx0:=gx.1;have gy0:=gy.1;have body:(Option.bind (S.s_l01Digit (xs,((i:Int),()))) (fun(y3:(Int×Unit))=>(Option.bind (S.s_l01Digit (ys,((i:Int),()))) (fun(y4:(Int×Unit))=>(if((decide ((((List.length (addUp B10 xs ys i).1)+(List.length ((Int.tmod (IntKind.wrap .i64 ((IntKind.wrap .i64 (y3.1+y4.1))+((addUp B10 xs ys i).2:Int))) (1000000000:Int))::([]:List Int))))*(8:Nat))<=(140737488355328:Nat)))=true)then(g ((IntKind.wrap .i64 ((i:Int)+(1:Int))),(xs,(ys,((IntKind.wrap .i64 (Int.tdiv (IntKind.wrap .i64 ((IntKind.wrap .i64 (y3.1+y4.1))+((addUp B10 xs ys i).2:Int))) (1000000000:Int))),(((addUp B10 xs ys i).1++((Int.tmod (IntKind.wrap .i64 ((IntKind.wrap .i64 (y3.1+y4.1))+((addUp B10 xs ys i).2:Int))) (1000000000:Int))::([]:List Int))),()))))))
 else none)))))=g (((i+1:Nat):Int),xs,ys,((addUp B10 xs ys (i+1)).2:Int),(addUp B10 xs ys (i+1)).1,()):=by
  rw[digit_atA xs i (by omega),Option.bind_some,digit_atA ys i (by omega),Option.bind_some];dsimp only;rw[addUp];generalize xs.getD i 0=x at*;generalize ys.getD i 0=y at*;generalize addUp B10 xs ys i=p at*;obtain⟨pl,c0⟩:=p;dsimp only at*;obtain⟨X,rfl⟩:∃Y:Nat,x=(Y:Int):=⟨x.toNat,by omega⟩
  obtain⟨Y,rfl⟩:∃Y:Nat,y=(Y:Int):=⟨y.toNat,by omega⟩
  rw[Int.toNat_natCast,Int.toNat_natCast,wr (x:=(X:Int)+(Y:Int)) (by omega) (by omega),wr (x:=(X:Int)+(Y:Int)+(c0:Int)) (by omega) (by omega),Int.tmod_eq_emod_of_nonneg (by omega),Int.tdiv_eq_ediv_of_nonneg (by omega)];have e8:((X:Int)+(Y:Int)+(c0:Int))%1000000000=(((c0+X+Y)%B10:Nat):Int):=by
   show _=(((c0+X+Y)%1000000000:Nat):Int)
   omega
  have e9:((X:Int)+(Y:Int)+(c0:Int))/1000000000=(((c0+X+Y)/B10:Nat):Int):=by
   show _=(((c0+X+Y)/1000000000:Nat):Int)
   omega
  have b2:(c0+X+Y)/B10<=1000000000:=by
   show(c0+X+Y)/1000000000<=1000000000;omega
  have hcap:(pl.length+ [(((c0+X+Y)%B10:Nat):Int)].length)*8<=140737488355328:=by
   rw[q2,List.length_singleton];omega
  rw[e8,e9,if_pos (decide_eq_true hcap),wr (x:=(((c0+X+Y)/B10:Nat):Int)) (by omega) (by omega),wr (x:=(i:Int)+1) (by omega) (by omega)];rfl
 unfold P.s_l01NatAdd_b0;dsimp only
 by_cases h1:i<xs.length
 ·have h1':(i:Int)<(xs.length:Int):=by omega
  rw[if_pos (decide_eq_true h1')];exact body
 ·have h1':¬(i:Int)<(xs.length:Int):=by omega
  rw[if_neg (by simpa using h1')]
  by_cases h2:i<ys.length
  ·have h2':(i:Int)<(ys.length:Int):=by omega
   rw[if_pos (decide_eq_true h2')];exact body
  ·have h2':¬(i:Int)<(ys.length:Int):=by omega
   have h3:((addUp B10 xs ys i).2:Int)>0:=by
    rcases hc with h|h|h
    ·exact absurd h h1
    ·exact absurd h h2
    ·omega
   rw[if_neg (by simpa using h2'),if_pos (decide_eq_true h3)];exact body
def S.s_l01NatAdd (x:((List Int)×((List Int)×Unit))):(Option ((List Int)×Unit)):=if canon B10 x.1=true/\canon B10 x.2.1=true/\x.1.length<=10000000000/\x.2.1.length<=10000000000 then some (nd B10 (dval B10 x.1+dval B10 x.2.1),())else none
theorem S.s_l01NatAdd_ok (x r) (h:S.s_l01NatAdd x=some r):∃k,P.s_l01NatAdd k x=some r:=by
 obtain⟨xs,ys,u⟩:=x;unfold S.s_l01NatAdd at h;dsimp only at h;split at h
 case isFalse=>cases h
 rename_i hc;obtain⟨cx,cy,lx,ly⟩:=hc;cases h;have dx:=canon_dig cx;have dy:=canon_dig cy;obtain⟨N,hN,hNx,hNy,hNle⟩:∃N,(N=xs.length\/N=ys.length)/\xs.length<=N/\ys.length<=N/\N<=10000000000:=by
  by_cases h:xs.length<=ys.length
  ·exact⟨ys.length, .inr rfl,h,Nat.le_refl _,ly⟩
  ·exact⟨xs.length, .inl rfl,Nat.le_refl _,by omega,lx⟩
 obtain⟨q1,q2,q3,q4⟩:=addUp_ok B10_le dx dy N;rw[List.take_of_length_le hNx,List.take_of_length_le hNy]at q3;obtain⟨n,hn,hfull⟩:∃n,(n=N/\(addUp B10 xs ys N).2=0\/n=N+1/\0<(addUp B10 xs ys N).2)/\(n=0\/B10^(n - 1)<=dval B10 xs+dval B10 ys):=by
  by_cases h:(addUp B10 xs ys N).2=0
  ·refine⟨N, .inl ⟨rfl,h⟩,?_⟩;have one:∀zs:List Int,canon B10 zs=true->zs=[]\/B10^(zs.length - 1)<=dval B10 zs:=by
    intro zs cz
    by_cases hz:zs=[]
    ·exact .inl hz
    ·have h0:dval B10 zs≠0:=fun e=>hz ((canon_nil B10_le cz).2 e)
     have:=nd_low B10_le h0;rw[canon_eq cz]at this;exact .inr this
   rcases hN with e|e
   ·rcases one xs cx with h2|h2
    ·left;rw[e,h2];rfl
    ·right;rw[e];omega
   ·rcases one ys cy with h2|h2
    ·left;rw[e,h2];rfl
    ·right;rw[e];omega
  ·refine⟨N+1, .inr ⟨rfl,by omega⟩, .inr ?_⟩;rw[Nat.add_sub_cancel];have:B10^N*1<=B10^N*(addUp B10 xs ys N).2:=Nat.mul_le_mul_left _ (by omega);omega
 obtain⟨r1,r2,r3,r4⟩:=addUp_ok B10_le dx dy n;rw[List.take_of_length_le (by omega),List.take_of_length_le (by omega)]at r3;have hlast:(addUp B10 xs ys n).2=0:=by
  rcases hn with ⟨rfl,h⟩|⟨rfl,h⟩
  ·exact h
  ·rw[addUp];rw[List.getD_eq_getElem?_getD,List.getElem?_eq_none (by omega),List.getD_eq_getElem?_getD,List.getElem?_eq_none (by omega)];show((addUp B10 xs ys N).2+0+0)/1000000000=0;omega
 rw[hlast,Nat.mul_zero,Nat.add_zero]at r3;refine⟨n+1,?_⟩;unfold P.s_l01NatAdd;dsimp only;have key:=loop_up0 (k:=n+1) (b:=P.s_l01NatAdd_b0) (n:=n) (st:=fun i=>((i:Int),xs,ys,((addUp B10 xs ys i).2:Int),(addUp B10 xs ys i).1,())) (F:=fun i=>some (nd B10 (dval B10 xs+dval B10 ys),())) (fun i g hi hg=>by
  rw[addA_round xs ys dx dy lx ly i (by omega) (by
   rcases hn with ⟨rfl,h⟩|⟨rfl,h⟩
   ·omega
   ·by_cases he:i=N
    ·subst he;exact .inr (.inr h)
    ·omega)]
  exact hg) (fun g=>by
  unfold P.s_l01NatAdd_b0;dsimp only;have h1:¬(n:Int)<(xs.length:Int):=by omega
  have h2:¬(n:Int)<(ys.length:Int):=by omega
  rw[if_neg (by simpa using h1),if_neg (by simpa using h2),hlast,if_neg (by simp),<-r3];rcases Nat.eq_zero_or_pos n with e|e
  ·subst e;show some ([],())=some (nd B10 0,());rw[nd_zero B10_le]
  ·have hv:B10^(n - 1)<=dval B10 (addUp B10 xs ys n).1:=by
    rcases hfull with h|h
    ·omega
    ·omega
   have:=nd_full B10_le r1 (fun q=>by rw[q]at r2;simp at r2;omega) (by rw[r2];exact hv);rw[this]) (by omega)
 exact key
abbrev P.s_l01NatLess_b0 (x1:Int×Int×List Int×List Int×Int×List Int×Unit) (g2:Int×Int×List Int×List Int×Int×List Int×Unit->Option (List Int×Unit)):Option (List Int×Unit):=
 (fun(a b e:Int) (c d f:List Int)=>if decide (a<b)then if decide (0<=a)then if decide (a<(c.length:Int))then(S.s_l01Digit (d,a,())).bind fun y3=>if decide ((wrap .i64 ((wrap .i64 ((c.getD a.toNat 0) - y3.1)) - e))<0)then if decide (((f.length+(List.length [wrap .i64 ((wrap .i64 ((wrap .i64 ((c.getD a.toNat 0) - y3.1)) - e))+1000000000)]))*8)<=140737488355328)then g2 (wrap .i64 (a+1),b,c,d,1,f++[wrap .i64 ((wrap .i64 ((wrap .i64 ((c.getD a.toNat 0) - y3.1)) - e))+1000000000)],())else none else if decide (((f.length+(List.length [wrap .i64 ((wrap .i64 ((c.getD a.toNat 0) - y3.1)) - e)]))*8)<=140737488355328)then g2 (wrap .i64 (a+1),b,c,d,0,f++[wrap .i64 ((wrap .i64 ((c.getD a.toNat 0) - y3.1)) - e)],())else none else none else none else(S.s_l01Trim (f,())).bind fun y4=>some (y4.1,())) x1.1 x1.2.1 x1.2.2.2.2.1 x1.2.2.1 x1.2.2.2.1 x1.2.2.2.2.2.1
def P.s_l01NatLess (k:Nat) (x:List Int×List Int×Unit):Option (List Int×Unit):=
 loopP P.s_l01NatLess_b0 k (0,(x.1.length:Int),x.1,x.2.1,0,[],())
theorem digit_at (xs:List Int) (i:Nat) (h:xs.length<=100000000000):S.s_l01Digit (xs,((i:Int),()))=some (xs.getD i 0,()):=by
 unfold S.s_l01Digit P.s_l01Digit;dsimp only
 by_cases hi:(i:Int)<(xs.length:Int)
 ·have h0:(0:Int)<=(i:Int):=by omega
  rw[if_pos (decide_eq_true hi),if_pos (decide_eq_true h0),if_pos (decide_eq_true hi),Int.toNat_natCast]
 ·rw[if_neg (by simpa using hi),List.getD_eq_getElem?_getD,List.getElem?_eq_none (by omega)];rfl
def S.s_l01NatLess (x:((List Int)×((List Int)×Unit))):(Option ((List Int)×Unit)):=if dig B10 x.1=true/\dig B10 x.2.1=true/\x.2.1.length<=x.1.length/\dval B10 x.2.1<=dval B10 x.1/\x.1.length<=10000000000 then some (nd B10 (dval B10 x.1 - dval B10 x.2.1),())else none
theorem S.s_l01NatLess_ok (x r) (h:S.s_l01NatLess x=some r):∃k,P.s_l01NatLess k x=some r:=by
 obtain⟨xs,ys,u⟩:=x;unfold S.s_l01NatLess at h;dsimp only at h;split at h
 case isFalse=>cases h
 rename_i hc;obtain⟨dx,dy,hl,hv,lx⟩:=hc;cases h;refine⟨xs.length+1,?_⟩;unfold P.s_l01NatLess;dsimp only;have key:=loop_up0 (k:=xs.length+1) (b:=P.s_l01NatLess_b0) (n:=xs.length) (st:=fun i=>((i:Int),(xs.length:Int),xs,ys,((takeUp B10 1 xs ys i).2.2:Int),(takeUp B10 1 xs ys i).1,())) (F:=fun i=>some (nd B10 (dval B10 xs - dval B10 ys),())) (fun i g hi hg=>by
  unfold P.s_l01NatLess_b0;dsimp only at hg ⊢;refine Eq.trans ?_ hg;clear hg;obtain⟨q1,q2,q3,q4,q5⟩:=takeUp_ok (t:=1) B10_le dx dy i;have gx:=dig_getD (B:=B10) (by decide) dx i;have gy:=dig_getD (B:=B10) (by decide) dy i;have gx1:xs.getD i 0<1000000000:=gx.2;have gy1:ys.getD i 0<1000000000:=gy.2;have gx0:=gx.1;have gy0:=gy.1;have e1:(i:Int)<(xs.length:Int):=by omega
  have e2:(0:Int)<=(i:Int):=by omega
  simp only[e1,e2,decide_true,if_true,Int.toNat_natCast];rw[digit_at ys i (by omega),Option.bind_some];dsimp only;rw[(takeUp_one B10_le (xs:=xs) dy i).2];dsimp only;generalize (takeUp B10 1 xs ys i).1=pl at*;generalize (takeUp B10 1 xs ys i).2.2=l0 at*;obtain⟨x,hx⟩:∃x,xs.getD i 0=x:=⟨_,rfl⟩
  obtain⟨y,hy⟩:∃y,ys.getD i 0=y:=⟨_,rfl⟩
  simp only[hx,hy]at gx1 gx0 gy1 gy0 ⊢;have hB:((B10:Nat):Int)=1000000000:=rfl;have hcap:∀v:Int,(pl.length+ [v].length)*8<=140737488355328:=by
   intro v;rw[q2,List.length_singleton];omega
  rw[wr (x:=(i:Int)+1) (by omega) (by omega),wr (x:=x - y) (by omega) (by omega),wr (x:=x - y - (l0:Int)) (by omega) (by omega),wr (x:=x - y - (l0:Int)+1000000000) (by omega) (by omega),hB]
  by_cases hn:x - y - (l0:Int)<0
  ·rw[if_pos (decide_eq_true hn),if_pos (decide_eq_true (hcap _)),if_pos hn,show(x - y - (l0:Int))%1000000000=x - y - (l0:Int)+1000000000 by omega];rfl
  ·have e11:(x - y - (l0:Int))%1000000000=x - y - (l0:Int):=by omega
   rw[if_neg (by simpa using hn),if_pos (decide_eq_true (hcap _)),if_neg hn,e11];rfl) (fun g=>by
  unfold P.s_l01NatLess_b0;dsimp only;rw[if_neg (by simp),takeUp_fd B10_le dx dy hl hv];unfold S.s_l01Trim;dsimp only;have hb:=dval_lt dx;rw[if_pos ⟨dig_fd (by decide) _ _,by rw[fd_len];omega⟩,Option.bind_some,nd_fd B10_le (by omega)]) (by omega)
 exact key
def P.s_l01Small (k:Nat) (x:List Int×Unit):Option ((Int×Bool)×Unit):=
 if decide ((x.1.length:Int)>2)then some ((0,false),())else(S.s_l01Digit (x.1,0,())).bind fun y0=>(S.s_l01Digit (x.1,1,())).bind fun y1=>some ((wrap .i64 (y0.1+(wrap .i64 (1000000000*y1.1))),true),())
theorem dig_s (xs:List Int) (i:Nat):S.s_l01Digit (xs,((i:Int),()))=some (xs.getD i 0,()):=by
 unfold S.s_l01Digit P.s_l01Digit;dsimp only
 by_cases h:i<xs.length
 ·have e1:(i:Int)<(xs.length:Int):=by omega
  have e2:(0:Int)<=(i:Int):=by omega
  simp only[e1,e2,decide_true,if_true,Int.toNat_natCast]
 ·rw[if_neg (by simp;omega)];simp [List.getD,List.getElem?_eq_none (Nat.le_of_not_lt h)]
def S.s_l01Small (x:((List Int)×Unit)):(Option ((Int×Bool)×Unit)):=if dig B10 x.1=true/\x.1.length<=1000000000000 then some ((if x.1.length<=2 then((dval B10 x.1:Nat):Int)else 0,decide (x.1.length<=2)),())else none
theorem S.s_l01Small_ok (x r) (h:S.s_l01Small x=some r):∃k,P.s_l01Small k x=some r:=by
 obtain⟨xs,u⟩:=x;unfold S.s_l01Small at h;dsimp only at h;split at h
 case isFalse=>cases h
 rename_i hc;obtain⟨hd,hl⟩:=hc;cases h;refine⟨0,?_⟩;unfold P.s_l01Small;dsimp only
 by_cases h2:xs.length<=2
 ·rw[if_neg (by simp;omega),if_pos h2,decide_eq_true h2];rw[show S.s_l01Digit (xs,((0:Int),()))=_ from dig_s xs 0,show S.s_l01Digit (xs,((1:Int),()))=_ from dig_s xs 1,Option.bind_some,Option.bind_some];dsimp only
  match xs,hd,h2 with
  | [],_,_=>rfl
  | [a],hd,_=>
   rw[dig_cons]at hd;have h1:a<1000000000:=hd.1.2;have h0:=hd.1.1;show some ((IntKind.wrap .i64 (a+IntKind.wrap .i64 (1000000000*0)),true),())=_;rw[wr (x:=(1000000000:Int)*0) (by omega) (by omega),wr (by omega) (by omega)];simp only[dval,Option.some.injEq,Prod.mk.injEq,and_true];omega
  | [a,b],hd,_=>
   rw[dig_cons,dig_cons]at hd;have h1:a<1000000000:=hd.1.2;have h0:=hd.1.1;have h3:b<1000000000:=hd.2.1.2;have h4:=hd.2.1.1;show some ((IntKind.wrap .i64 (a+IntKind.wrap .i64 (1000000000*b)),true),())=_;rw[wr (x:=(1000000000:Int)*b) (by omega) (by omega),wr (by omega) (by omega)];simp only[dval,Option.some.injEq,Prod.mk.injEq,and_true];show _=((a.toNat+1000000000*(b.toNat+1000000000*0):Nat):Int)
   omega
  |_::_::_::_,_,h2=>simp at h2
 ·rw[if_pos (decide_eq_true (by omega)),if_neg h2,decide_eq_false h2]
abbrev P.s_l01ShortMul_b0 (x1:Int×Int×List Int×Int×Int×List Int×Unit) (g2:Int×Int×List Int×Int×Int×List Int×Unit->Option (List Int×Unit)):Option (List Int×Unit):=
 (fun(a b d e:Int) (c f:List Int)=>if decide (a<b)then if decide (0<=a)then if decide (a<(c.length:Int))then if decide (((f.length+(List.length [Int.tmod (wrap .i64 ((wrap .i64 ((c.getD a.toNat 0)*d))+e)) 1000000000]))*8)<=140737488355328)then g2 (wrap .i64 (a+1),b,c,d,wrap .i64 (Int.tdiv (wrap .i64 ((wrap .i64 ((c.getD a.toNat 0)*d))+e)) 1000000000),f++[Int.tmod (wrap .i64 ((wrap .i64 ((c.getD a.toNat 0)*d))+e)) 1000000000],())else none else none else none else if decide (e>0)then if decide (((f.length+(List.length [e]))*8)<=140737488355328)then some (f++[e],())else none else some (f,())) x1.1 x1.2.1 x1.2.2.2.1 x1.2.2.2.2.1 x1.2.2.1 x1.2.2.2.2.2.1
def P.s_l01ShortMul (k:Nat) (x:List Int×Int×Unit):Option (List Int×Unit):=
 if decide (0<=(wrap .i64 ((x.1.length:Int)+1)))then if decide (((wrap .i64 ((x.1.length:Int)+1))*8)<=281474976710656)then loopP P.s_l01ShortMul_b0 k (0,(x.1.length:Int),x.1,x.2.1,0,seen (List.replicate (Int.toNat (wrap .i64 ((x.1.length:Int)+1))) 0) 0 0,())else none else none
def S.s_l01ShortMul (x:((List Int)×(Int×Unit))):(Option ((List Int)×Unit)):=if canon B10 x.1=true/\0<x.2.1/\x.2.1<=1000000000/\x.1.length<=1000000000000 then some (nd B10 (dval B10 x.1*x.2.1.toNat),())else none
theorem S.s_l01ShortMul_ok (x r) (h:S.s_l01ShortMul x=some r):∃k,P.s_l01ShortMul k x=some r:=by
 obtain⟨xs,b,u⟩:=x;unfold S.s_l01ShortMul at h;dsimp only at h;split at h
 case isFalse=>cases h
 rename_i hc;obtain⟨hcan,hb0,hb1,hl⟩:=hc;have hd:=canon_dig hcan;cases h;obtain⟨d,rfl⟩:∃d:Nat,b=(d:Int):=⟨b.toNat,by omega⟩
 refine⟨xs.length+1,?_⟩;unfold P.s_l01ShortMul;dsimp only;rw[wr (by omega) (by omega)];have a1:(0:Int)<=(xs.length:Int)+1:=by omega
 have a3:((xs.length:Int)+1)*8<=281474976710656:=by omega
 rw[if_pos (decide_eq_true a1),if_pos (decide_eq_true a3)];have e0:seen (List.replicate ((xs.length:Int)+1).toNat (0:Int)) 0 (0:Nat)=[]:=by simp [seen]
 rw[e0,Int.toNat_natCast];have key:=loop_up0 (k:=xs.length+1) (b:=P.s_l01ShortMul_b0) (n:=xs.length) (st:=fun i=>((i:Int),(xs.length:Int),xs,(d:Int),((mulUp B10 d xs i).2:Int),(mulUp B10 d xs i).1,())) (F:=fun i=>some (nd B10 (dval B10 xs*d),())) (fun i g hi hg=>by
  unfold P.s_l01ShortMul_b0;dsimp only at hg ⊢;obtain⟨q1,q2,q3,q4⟩:=mulUp_ok (d:=d) B10_le hd i (by omega);have e1:(i:Int)<(xs.length:Int):=by omega
  have e2:(0:Int)<=(i:Int):=by omega
  simp only[e1,e2,decide_true,if_true];have hgD:xs.getD i 0=xs[i]:=by simp [hi]
  have hx:=dig_get hd hi;have hx1:xs[i]<1000000000:=hx.2;have hx0:=hx.1;rw[getD_cast xs i _ hi];rw[mulUp,hgD]at hg;generalize hP:mulUp B10 d xs i=p at*;obtain⟨z,hz⟩:∃z:Nat,xs[i]=(z:Int):=⟨xs[i].toNat,(Int.toNat_of_nonneg hx0).symm⟩
  rw[hz]at hx1 hg ⊢;rw[Int.toNat_natCast]at hg;have hzd:z*d<=999999999000000000:=Nat.mul_le_mul (show z<=999999999 by omega) (show d<=1000000000 by omega);have em:(z:Int)*(d:Int)=((z*d:Nat):Int):=(Int.natCast_mul _ _).symm;rw[em,wr (x:=((z*d:Nat):Int)) (by omega) (by omega),wr (x:=((z*d:Nat):Int)+(p.2:Int)) (by omega) (by omega)];have eT:Int.tdiv (((z*d:Nat):Int)+(p.2:Int)) 1000000000=(((z*d+p.2)/B10:Nat):Int):=by
   rw[Int.tdiv_eq_ediv_of_nonneg (by omega)];show _=(((z*d+p.2)/1000000000:Nat):Int)
   omega
  have eM:Int.tmod (((z*d:Nat):Int)+(p.2:Int)) 1000000000=(((z*d+p.2)%B10:Nat):Int):=by
   rw[Int.tmod_eq_emod_of_nonneg (by omega)];show _=(((z*d+p.2)%1000000000:Nat):Int)
   omega
  have hq:(z*d+p.2)/B10<=9223372036854775807:=Nat.le_trans (Nat.div_le_self _ _) (by omega);have hcap:(p.1.length+([Int.tmod (((z*d:Nat):Int)+(p.2:Int)) 1000000000]:List Int).length)*8<=140737488355328:=by
   rw[q2];simp;omega
  rw[if_pos (decide_eq_true hcap),eT,eM,wr (x:=(((z*d+p.2)/B10:Nat):Int)) (Int.le_trans (by decide) (Int.natCast_nonneg _)) (Int.ofNat_le.2 hq),wr (by omega) (by omega)];exact hg) (fun g=>by
  unfold P.s_l01ShortMul_b0;dsimp only;obtain⟨q1,q2,q3,q4⟩:=mulUp_ok (d:=d) B10_le hd xs.length (Nat.le_refl _);rw[List.take_length]at q3;generalize hP:mulUp B10 d xs xs.length=p at*;rw[if_neg (by simp)]
  by_cases hz:p.2=0
  ·rw[if_neg (by simp [hz])];rw[hz,Nat.mul_zero,Nat.add_zero]at q3;rw[<-q3];rcases List.eq_nil_or_concat p.1 with e|_
   ·rw[e];show _=some (nd B10 0,());rw[nd_zero B10_le]
   ·by_cases hx:xs=[]
    ·subst hx;have:p.1=[]:=List.eq_nil_of_length_eq_zero q2;rw[this];show _=some (nd B10 0,());rw[nd_zero B10_le]
    ·have hpos:0<xs.length:=List.length_pos_iff.2 hx;have hv:dval B10 xs≠0:=by
      intro q;have:=canon_eq hcan;rw[q,nd_zero B10_le]at this;exact hx this.symm
     have hlow:=nd_low B10_le hv;rw[canon_eq hcan]at hlow;have hne:p.1≠ []:=by
      intro q;rw[q]at q2;simp at q2;omega
     have hge:B10^(p.1.length - 1)<=dval B10 p.1:=by
      rw[q2,q3];exact Nat.le_trans hlow (Nat.le_mul_of_pos_right _ (by omega))
     rw[nd_full B10_le q1 hne hge]
  ·have e1:(p.2:Int)>0:=by omega
   have hcap:(p.1.length+([(p.2:Int)]:List Int).length)*8<=140737488355328:=by
    rw[q2];simp;omega
   rw[if_pos (decide_eq_true e1),if_pos (decide_eq_true hcap),<-q3];have hlt:p.2<B10:=by
    have h1:=dval_lt hd;have h2:B10^xs.length*p.2<B10^xs.length*d:=by
     have:dval B10 xs*d<B10^xs.length*d:=Nat.mul_lt_mul_of_pos_right h1 (by omega);omega
    have:=Nat.lt_of_mul_lt_mul_left h2;show p.2<1000000000;omega
   have hdd:dig B10 (p.1++[(p.2:Int)])=true:=by
    rw[dig_append,q1,Bool.true_and,dig_cons];exact⟨⟨Int.natCast_nonneg _,Int.ofNat_lt.2 hlt⟩,rfl⟩
   have:=nd_snoc B10_le p.1 (p.2:Int) hdd (by omega);rw[dval_append,q2]at this;have e2:dval B10 [(p.2:Int)]=p.2:=by simp [dval]
   rw[e2]at this;rw[this]) (by omega)
 exact key
abbrev P.s_l01ShortDiv_b0 (x1:Int×Int×List Int×List Int×Int×Unit) (g2:Int×Int×List Int×List Int×Int×Unit->Option ((List Int×Int)×Unit)):Option ((List Int×Int)×Unit):=
 (fun(a b e:Int) (c d:List Int)=>if decide (a>=0)then if decide (0<=a)then if decide (a<(c.length:Int))then if decide (e=0)then none else if decide (0<=a)then if decide (a<(d.length:Int))then if decide (e=0)then none else g2 (wrap .i64 (a - 1),Int.tmod (wrap .i64 ((wrap .i64 (b*1000000000))+(c.getD a.toNat 0))) e,c,d.set (0+a.toNat) (wrap .i64 (Int.tdiv (wrap .i64 ((wrap .i64 (b*1000000000))+(c.getD a.toNat 0))) e)),e,())else none else none else none else none else(S.s_l01Trim (d,())).bind fun y3=>some ((y3.1,b),())) x1.1 x1.2.1 x1.2.2.2.2.1 x1.2.2.1 x1.2.2.2.1
def P.s_l01ShortDiv (k:Nat) (x:List Int×Int×Unit):Option ((List Int×Int)×Unit):=
 if decide (0<=(x.1.length:Int))then if decide ((x.1.length:Int)<=(x.1.length:Int))then if decide (((x.1.length:Int)*8)<=281474976710656)then loopP P.s_l01ShortDiv_b0 k (wrap .i64 ((x.1.length:Int) - 1),0,x.1,List.replicate (Int.toNat (x.1.length:Int)) 0,x.2.1,())else none else none else none
def S.s_l01ShortDiv (x:((List Int)×(Int×Unit))):(Option (((List Int)×Int)×Unit)):=if dig B10 x.1=true/\0<x.2.1/\x.2.1<1000000001/\x.1.length<=1000000000000 then some ((nd B10 (dval B10 x.1/x.2.1.toNat),((dval B10 x.1%x.2.1.toNat:Nat):Int)),())else none
theorem S.s_l01ShortDiv_ok (x r) (h:S.s_l01ShortDiv x=some r):∃k,P.s_l01ShortDiv k x=some r:=by
 obtain⟨xs,b,u⟩:=x;unfold S.s_l01ShortDiv at h;dsimp only at h;split at h
 case isFalse=>cases h
 rename_i hc;obtain⟨hd,hb0,hb1,hl⟩:=hc;cases h;refine⟨xs.length+1,?_⟩;unfold P.s_l01ShortDiv;dsimp only;have a1:(0:Int)<=(xs.length:Int):=by omega
 have a2:(xs.length:Int)<=(xs.length:Int):=by omega
 have a3:(xs.length:Int)*8<=281474976710656:=by omega
 simp only[a1,a2,a3,decide_true,if_true];rw[wr (by omega) (by omega),Int.toNat_natCast];have hdr:∀m,dig B10 (xs.drop m)=true:=by
  intro m;have:=List.take_append_drop m xs;have hd':=hd;rw[<-this,dig_append,Bool.and_eq_true]at hd';exact hd'.2
 have hbN:0<b.toNat:=by omega
 have key:=loop_up0 (k:=xs.length+1) (b:=P.s_l01ShortDiv_b0) (n:=xs.length) (st:=fun j=>((xs.length:Int) - 1 - (j:Int),((qdiv B10 b.toNat (xs.drop (xs.length - j))).2:Int),xs,List.replicate (xs.length - j) (0:Int)++(qdiv B10 b.toNat (xs.drop (xs.length - j))).1,b,())) (F:=fun j=>some ((nd B10 (dval B10 xs/b.toNat),((dval B10 xs%b.toNat:Nat):Int)),())) (fun j g hj hg=>by
  unfold P.s_l01ShortDiv_b0;dsimp only at hg ⊢;obtain⟨q1,q2,q3,q4⟩:=qdiv_ok B10 b.toNat hbN (xs.drop (xs.length - j)) (hdr _);have hi:xs.length - (j+1)<xs.length:=by omega
  have e5:(xs.length:Int) - 1 - (j:Int)=((xs.length - (j+1):Nat):Int):=by omega
  have e6:xs.drop (xs.length - (j+1))=xs[xs.length - (j+1)]::xs.drop (xs.length - j):=by
   rw[List.drop_eq_getElem_cons hi];congr 2;omega
  have e7:xs.length - j=(xs.length - (j+1))+1:=by omega
  have hlen:(List.replicate (xs.length - j) (0:Int)++(qdiv B10 b.toNat (xs.drop (xs.length - j))).1).length=xs.length:=by
   rw[List.length_append,List.length_replicate,q2,List.length_drop];omega
  have hx:=dig_get hd hi;have hx1:xs[xs.length - (j+1)]<1000000000:=hx.2;have hx0:=hx.1;have hm:(qdiv B10 b.toNat (xs.drop (xs.length - j))).2<b.toNat:=by rw[q4];exact Nat.mod_lt _ hbN
  rw[e6]at hg;rw[hlen,e5,getD_cast xs _ _ hi];have a1:((xs.length - (j+1):Nat):Int)>=0:=by omega
  have a2:(0:Int)<=((xs.length - (j+1):Nat):Int):=by omega
  have a3:((xs.length - (j+1):Nat):Int)<(xs.length:Int):=by omega
  have a4:¬(b=0):=by omega
  simp only[a1,a3,a4,decide_true,decide_false,if_true,if_false,Bool.false_eq_true];generalize hR:(qdiv B10 b.toNat (xs.drop (xs.length - j))).2=R at*;generalize hX:xs[xs.length - (j+1)]=X at*;have hRX:(R:Int)*1000000000+X<b*1000000000:=by omega
  rw[wr (x:=(R:Int)*1000000000) (by omega) (by omega),wr (x:=(R:Int)*1000000000+X) (by omega) (by omega)];have eT:Int.tdiv ((R:Int)*1000000000+X) b=(((R*B10+X.toNat)/b.toNat:Nat):Int):=by
   rw[Int.tdiv_eq_ediv_of_nonneg (by omega)];have:(R:Int)*1000000000+X=((R*1000000000+X.toNat:Nat):Int):=by omega
   rw[this];have hb:b=((b.toNat:Nat):Int):=by omega
   conv=>lhs;rw[hb]
   exact(Int.natCast_ediv _ _).symm
  have eM:Int.tmod ((R:Int)*1000000000+X) b=(((R*B10+X.toNat)%b.toNat:Nat):Int):=by
   rw[Int.tmod_eq_emod_of_nonneg (by omega)];have:(R:Int)*1000000000+X=((R*1000000000+X.toNat:Nat):Int):=by omega
   rw[this];have hb:b=((b.toNat:Nat):Int):=by omega
   conv=>lhs;rw[hb]
   exact(Int.natCast_emod _ _).symm
  have hQ:(R*B10+X.toNat)/b.toNat<B10:=(Nat.div_lt_iff_lt_mul hbN).2 (by
   show R*1000000000+X.toNat<1000000000*b.toNat;omega)
  have hQ':(R*B10+X.toNat)/b.toNat<1000000000:=hQ;have z0:(0:Int)<=(((R*B10+X.toNat)/b.toNat:Nat):Int):=Int.natCast_nonneg _;have z1:(((R*B10+X.toNat)/b.toNat:Nat):Int)<1000000000:=Int.ofNat_lt.2 hQ';rw[eT,eM,wr (Int.le_trans (by decide) z0) (Int.le_of_lt (Int.lt_trans z1 (by decide))),wr (x:=((xs.length - (j+1):Nat):Int) - 1) (by omega) (by omega),Nat.zero_add,Int.toNat_natCast];have hset:∀(Q:List Int) (v:Int),(List.replicate (xs.length - j) (0:Int)++Q).set (xs.length - (j+1)) v=List.replicate (xs.length - (j+1)) 0++v::Q:=by
   intro Q v;rw[e7];exact set_back _ _ _
  rw[hset,<-hg];congr 1;simp only[Prod.mk.injEq,qdiv];rw[hR]
  and_intros<;>first|rfl|omega|trivial) (fun g=>by
  unfold P.s_l01ShortDiv_b0;dsimp only;obtain⟨q1,q2,q3,q4⟩:=qdiv_ok B10 b.toNat hbN xs hd;rw[if_neg (by simp;omega),Nat.sub_self,List.drop_zero,List.replicate_zero,List.nil_append,trim_s _ q1 (by omega),Option.bind_some,q3,q4]) (by omega)
 rw[show(xs.length:Int) - 1 - ((0:Nat):Int)=(xs.length:Int) - 1 by omega,Nat.sub_zero,List.drop_length]at key;simpa [qdiv]using key
abbrev s_l01TakeOff.A:=Int×Int×List Int×List Int×Int×Int×Int×List Int×Unit
abbrev P.s_l01TakeOff_b0 (x1:s_l01TakeOff.A) (g2:s_l01TakeOff.A->Option (Bool×List Int×Unit)):Option (Bool×List Int×Unit):=
 (fun(a b e f h:Int) (c d i:List Int)=>if decide (a<b)then if decide (0<=a)then if decide (a<(c.length:Int))then if decide (0<=(wrap .i64 (e+a)))then if decide ((wrap .i64 (e+a))<(d.length:Int))then if decide ((wrap .i64 ((wrap .i64 ((d.getD (0+(Int.toNat (wrap .i64 (e+a)))) 0) - (Int.tmod (wrap .i64 ((c.getD a.toNat 0)*f)) 1000000000))) - h))<0)then if decide ((wrap .i64 ((wrap .i64 ((wrap .i64 ((d.getD (0+(Int.toNat (wrap .i64 (e+a)))) 0) - (Int.tmod (wrap .i64 ((c.getD a.toNat 0)*f)) 1000000000))) - h))+1000000000))<0)then if decide (0<=(wrap .i64 (e+a)))then if decide ((wrap .i64 (e+a))<(d.length:Int))then g2 (wrap .i64 (a+1),b,c,d.set (0+(Int.toNat (wrap .i64 (e+a)))) (wrap .i64 ((wrap .i64 ((wrap .i64 ((wrap .i64 ((d.getD (0+(Int.toNat (wrap .i64 (e+a)))) 0) - (Int.tmod (wrap .i64 ((c.getD a.toNat 0)*f)) 1000000000))) - h))+1000000000))+1000000000)),e,f,wrap .i64 ((wrap .i64 ((wrap .i64 (Int.tdiv (wrap .i64 ((c.getD a.toNat 0)*f)) 1000000000))+1))+1),i,())else none else none else if decide (0<=(wrap .i64 (e+a)))then if decide ((wrap .i64 (e+a))<(d.length:Int))then g2 (wrap .i64 (a+1),b,c,d.set (0+(Int.toNat (wrap .i64 (e+a)))) (wrap .i64 ((wrap .i64 ((wrap .i64 ((d.getD (0+(Int.toNat (wrap .i64 (e+a)))) 0) - (Int.tmod (wrap .i64 ((c.getD a.toNat 0)*f)) 1000000000))) - h))+1000000000)),e,f,wrap .i64 ((wrap .i64 (Int.tdiv (wrap .i64 ((c.getD a.toNat 0)*f)) 1000000000))+1),i,())else none else none else if decide (0<=(wrap .i64 (e+a)))then if decide ((wrap .i64 (e+a))<(d.length:Int))then g2 (wrap .i64 (a+1),b,c,d.set (0+(Int.toNat (wrap .i64 (e+a)))) (wrap .i64 ((wrap .i64 ((d.getD (0+(Int.toNat (wrap .i64 (e+a)))) 0) - (Int.tmod (wrap .i64 ((c.getD a.toNat 0)*f)) 1000000000))) - h)),e,f,wrap .i64 (Int.tdiv (wrap .i64 ((c.getD a.toNat 0)*f)) 1000000000),i,())else none else none else none else none else none else none else if decide (0<=(wrap .i64 (e+(i.length:Int))))then if decide ((wrap .i64 (e+(i.length:Int)))<(d.length:Int))then if decide (0<=(wrap .i64 (e+(i.length:Int))))then if decide ((wrap .i64 (e+(i.length:Int)))<(d.length:Int))then if decide (0<=(wrap .i64 (e+(i.length:Int))))then if decide ((wrap .i64 (e+(i.length:Int)))<(List.length (d.set (0+(Int.toNat (wrap .i64 (e+(i.length:Int))))) (wrap .i64 ((d.getD (0+(Int.toNat (wrap .i64 (e+(i.length:Int))))) 0) - h))):Int))then some (decide ((List.getD (d.set (0+(Int.toNat (wrap .i64 (e+(i.length:Int))))) (wrap .i64 ((d.getD (0+(Int.toNat (wrap .i64 (e+(i.length:Int))))) 0) - h))) (0+(Int.toNat (wrap .i64 (e+(i.length:Int))))) 0)<0),d.set (0+(Int.toNat (wrap .i64 (e+(i.length:Int))))) (wrap .i64 ((d.getD (0+(Int.toNat (wrap .i64 (e+(i.length:Int))))) 0) - h)),())else none else none else none else none else none else none) x1.1 x1.2.1 x1.2.2.2.2.1 x1.2.2.2.2.2.1 x1.2.2.2.2.2.2.1 x1.2.2.1 x1.2.2.2.1 x1.2.2.2.2.2.2.2.1
def P.s_l01TakeOff (k:Nat) (x:List Int×List Int×Int×Int×Unit):Option (Bool×List Int×Unit):=
 loopP P.s_l01TakeOff_b0 k (0,(x.2.1.length:Int),x.2.1,x.1,x.2.2.1,x.2.2.2.1,0,x.2.1,())
def S.s_l01TakeOff (x:((List Int)×((List Int)×(Int×(Int×Unit))))):(Option (Bool×((List Int)×Unit))):=
 if 0<=x.2.2.1/\x.2.2.1.toNat+x.2.1.length<x.1.length/\dig B10 ((x.1.drop x.2.2.1.toNat).take x.2.1.length)=true/\dig B10 x.2.1=true/\0<=x.1.getD (x.2.2.1.toNat+x.2.1.length) 0/\x.1.getD (x.2.2.1.toNat+x.2.1.length) 0<=1000000000/\0<=x.2.2.2.1/\x.2.2.2.1<1000000000/\x.1.length<=1000000000000 then
  let T:Int:=((dval B10 ((x.1.drop x.2.2.1.toNat).take x.2.1.length):Nat):Int)+((B10^x.2.1.length:Nat):Int)*x.1.getD (x.2.2.1.toNat+x.2.1.length) 0 - ((dval B10 x.2.1*x.2.2.2.1.toNat:Nat):Int)
  some (decide (T/((B10^x.2.1.length:Nat):Int)<0),(x.1.take x.2.2.1.toNat++fd B10 x.2.1.length (T%((B10^x.2.1.length:Nat):Int)).toNat)++(T/((B10^x.2.1.length:Nat):Int))::x.1.drop (x.2.2.1.toNat+x.2.1.length+1),())
 else none
theorem takeOff_main (us vs W:List Int) (j t:Nat) (hW:(us.drop j).take vs.length=W) (hl:j+vs.length<us.length) (hw:dig B10 W=true) (hv:dig B10 vs=true) (ht0:0<=us.getD (j+vs.length) 0) (ht1:us.getD (j+vs.length) 0<=1000000000) (hd1:(t:Int)<1000000000) (hbig:us.length<=1000000000000):
  P.s_l01TakeOff (vs.length+1) (us,(vs,((j:Int),((t:Int),()))))=some (decide (((((dval B10 W:Nat):Int)+((B10^vs.length:Nat):Int)*us.getD (j+vs.length) 0 - ((dval B10 vs*t:Nat):Int))/((B10^vs.length:Nat):Int))<0),(us.take j++fd B10 vs.length ((((dval B10 W:Nat):Int)+((B10^vs.length:Nat):Int)*us.getD (j+vs.length) 0 - ((dval B10 vs*t:Nat):Int))%((B10^vs.length:Nat):Int)).toNat)++((((dval B10 W:Nat):Int)+((B10^vs.length:Nat):Int)*us.getD (j+vs.length) 0 - ((dval B10 vs*t:Nat):Int))/((B10^vs.length:Nat):Int))::us.drop (j+vs.length+1),()):=by
 have hWg:∀i,i<vs.length->W.getD i 0=us.getD (j+i) 0:=by
  intro i hi;rw[<-hW,win_getD hi]
 have hWl:W.length=vs.length:=by rw[<-hW];simp;omega
 have htB:t<B10:=by show t<1000000000;omega
 unfold P.s_l01TakeOff;dsimp only;have key:=loop_up0 (k:=vs.length+1) (b:=P.s_l01TakeOff_b0) (n:=vs.length) (st:=fun i=>((i:Int),(vs.length:Int),vs,(us.take j++(offUp B10 t W vs i).1)++us.drop (j+i),(j:Int),(t:Int),((offUp B10 t W vs i).2:Int),vs,())) (F:=fun i=>some (decide (((((dval B10 W:Nat):Int)+((B10^vs.length:Nat):Int)*us.getD (j+vs.length) 0 - ((dval B10 vs*t:Nat):Int))/((B10^vs.length:Nat):Int))<0),(us.take j++fd B10 vs.length ((((dval B10 W:Nat):Int)+((B10^vs.length:Nat):Int)*us.getD (j+vs.length) 0 - ((dval B10 vs*t:Nat):Int))%((B10^vs.length:Nat):Int)).toNat)++((((dval B10 W:Nat):Int)+((B10^vs.length:Nat):Int)*us.getD (j+vs.length) 0 - ((dval B10 vs*t:Nat):Int))/((B10^vs.length:Nat):Int))::us.drop (j+vs.length+1),())) (fun i g hi hg=>by
  unfold P.s_l01TakeOff_b0;dsimp only at hg ⊢;refine Eq.trans ?_ hg;clear hg;obtain⟨q1,q2,q3,q4⟩:=offUp_ok (t:=t) B10_le htB hw hv i;have gx:=dig_getD (B:=B10) (by decide) hw i;have gy:=dig_getD (B:=B10) (by decide) hv i;have gx1:W.getD i 0<1000000000:=gx.2;have gy1:vs.getD i 0<1000000000:=gy.2;have gx0:=gx.1;have gy0:=gy.1;have hAl:(us.take j++(offUp B10 t W vs i).1).length=j+i:=by rw[List.length_append,q2,List.length_take];omega
  have hlen:((us.take j++(offUp B10 t W vs i).1)++us.drop (j+i)).length=us.length:=by rw[List.length_append,hAl,List.length_drop];omega
  have e1:(i:Int)<(vs.length:Int):=by omega
  have e2:(0:Int)<=(i:Int):=by omega
  have e3:(0:Int)<=((j+i:Nat):Int):=by omega
  have e4:((j+i:Nat):Int)<(us.length:Int):=by omega
  rw[hlen,<-Int.natCast_add,wr (x:=((j+i:Nat):Int)) (by omega) (by omega)];simp only[e1,e2,e3,e4,decide_true,if_true,Nat.zero_add,Int.toNat_natCast];rw[drop_cons_getD (xs:=us) (i:=j+i) (by omega),mid_get hAl];simp only[mid_set hAl];rw[<-hWg i hi,offUp];dsimp only;generalize W.getD i 0=x at*;generalize vs.getD i 0=y at*;generalize offUp B10 t W vs i=p at*;obtain⟨pl,c0⟩:=p;dsimp only at*;obtain⟨Y,rfl⟩:∃Y:Nat,y=(Y:Int):=⟨y.toNat,by omega⟩
  rw[Int.toNat_natCast];have hYt:Y*t<=999999999*999999999:=Nat.mul_le_mul (by omega) (by omega);rw[<-Int.natCast_mul,wr (x:=((Y*t:Nat):Int)) (by omega) (by omega),Int.tmod_eq_emod_of_nonneg (by omega),Int.tdiv_eq_ediv_of_nonneg (by omega)];generalize Y*t=m at*;have e8:((m:Nat):Int)%1000000000=((m%B10:Nat):Int):=by
   show _=((m%1000000000:Nat):Int)
   omega
  have e9:((m:Nat):Int)/1000000000=((m/B10:Nat):Int):=by
   show _=((m/1000000000:Nat):Int)
   omega
  rw[e8,e9];have b1:m%B10<1000000000:=Nat.mod_lt _ (by decide);have b2:m/B10<=1000000000:=by
   show m/1000000000<=1000000000;omega
  generalize m%B10=lo at*;generalize m/B10=hi' at*;rw[wr (x:=x - (lo:Int)) (by omega) (by omega),wr (x:=x - (lo:Int) - (c0:Int)) (by omega) (by omega),wr (x:=x - (lo:Int) - (c0:Int)+1000000000) (by omega) (by omega),wr (x:=x - (lo:Int) - (c0:Int)+1000000000+1000000000) (by omega) (by omega),wr (x:=(hi':Int)) (by omega) (by omega),wr (x:=(hi':Int)+1) (by omega) (by omega),wr (x:=(hi':Int)+1+1) (by omega) (by omega),wr (x:=(i:Int)+1) (by omega) (by omega)];have eB:((B10:Nat):Int)=1000000000:=rfl;rw[eB,<-Nat.add_assoc j i 1,<-List.append_assoc (us.take j)]
  by_cases hn:x - (lo:Int) - (c0:Int)<0
  ·rw[if_pos (decide_eq_true hn),if_pos hn]
   by_cases hn2:x - (lo:Int) - (c0:Int)+1000000000<0
   ·rw[if_pos (decide_eq_true hn2),if_pos hn2,show x - (lo:Int) - (c0:Int)+1000000000+1000000000=(x - (lo:Int) - (c0:Int))%1000000000 by omega];rfl
   ·rw[if_neg (by simpa using hn2),if_neg hn2,show x - (lo:Int) - (c0:Int)+1000000000=(x - (lo:Int) - (c0:Int))%1000000000 by omega];rfl
  ·rw[if_neg (by simpa using hn),if_neg hn];have e11:(x - (lo:Int) - (c0:Int))%1000000000=x - (lo:Int) - (c0:Int):=by omega
   rw[e11];rfl) (fun g=>by
  unfold P.s_l01TakeOff_b0;dsimp only;obtain⟨q1,q2,q3,q4⟩:=offUp_ok (t:=t) B10_le htB hw hv vs.length;rw[List.take_length,<-hWl,List.take_length,hWl]at q3;have hAl:(us.take j++(offUp B10 t W vs vs.length).1).length=j+vs.length:=by rw[List.length_append,q2,List.length_take];omega
  have hlen:((us.take j++(offUp B10 t W vs vs.length).1)++us.drop (j+vs.length)).length=us.length:=by rw[List.length_append,hAl,List.length_drop];omega
  have e3:(0:Int)<=((j+vs.length:Nat):Int):=by omega
  have e4:((j+vs.length:Nat):Int)<(us.length:Int):=by omega
  have e5:¬((vs.length:Int)<(vs.length:Int)):=by omega
  rw[<-Int.natCast_add,wr (x:=((j+vs.length:Nat):Int)) (by omega) (by omega)];simp only[e3,e4,e5,decide_true,decide_false,if_true,Nat.zero_add,Int.toNat_natCast,List.length_set,hlen,Bool.false_eq_true,if_false];rw[drop_cons_getD (xs:=us) (i:=j+vs.length) (by omega),mid_get hAl,mid_set hAl,List.append_assoc _ [_],List.singleton_append,mid_get hAl];generalize offUp B10 t W vs vs.length=p at*;obtain⟨pl,c0⟩:=p;dsimp only at*;generalize us.getD (j+vs.length) 0=top at*;rw[wr (x:=top - (c0:Int)) (by omega) (by omega)];have hlt:=dval_lt q1;rw[q2]at hlt;have eT:((dval B10 W:Nat):Int)+((B10^vs.length:Nat):Int)*top - ((dval B10 vs*t:Nat):Int)=((dval B10 pl:Nat):Int)+((B10^vs.length:Nat):Int)*(top - (c0:Int)):=by
   rw[Int.mul_sub,<-Int.natCast_mul];omega
  rw[eT,(ediv_top hlt _).1,(ediv_top hlt _).2,Int.toNat_natCast,<-fd_eq B10_le q1 q2 rfl]) (by omega)
 have e0:(us.take j++(offUp B10 t W vs 0).1)++us.drop (j+0)=us:=by
  show(us.take j++[])++us.drop j=us;rw[List.append_nil,List.take_append_drop]
 rw[e0]at key;exact key
theorem S.s_l01TakeOff_ok (x r) (h:S.s_l01TakeOff x=some r):∃k,P.s_l01TakeOff k x=some r:=by
 obtain⟨us,vs,j',d',u⟩:=x;unfold S.s_l01TakeOff at h;dsimp only at h;split at h
 case isFalse=>cases h
 rename_i hc;obtain⟨hj0,hl,hw,hv,ht0,ht1,hd0,hd1,hbig⟩:=hc;obtain⟨j,rfl⟩:∃d:Nat,j'=(d:Int):=⟨j'.toNat,by omega⟩
 obtain⟨t,rfl⟩:∃d:Nat,d'=(d:Int):=⟨d'.toNat,by omega⟩
 refine⟨vs.length+1,?_⟩;rw[<-h];exact takeOff_main us vs _ j t rfl hl hw hv ht0 ht1 hd1 hbig
abbrev P.s_l01PutBack_b0 (x1:Int×Int×List Int×List Int×Int×Int×List Int×Unit) (g2:Int×Int×List Int×List Int×Int×Int×List Int×Unit->Option (Unit×List Int×Unit)):Option (Unit×List Int×Unit):=
 (fun(a b e f:Int) (c d h:List Int)=>if decide (a<b)then if decide (0<=a)then if decide (a<(c.length:Int))then if decide (0<=(wrap .i64 (e+a)))then if decide ((wrap .i64 (e+a))<(d.length:Int))then if decide (0<=(wrap .i64 (e+a)))then if decide ((wrap .i64 (e+a))<(d.length:Int))then g2 (wrap .i64 (a+1),b,c,d.set (0+(Int.toNat (wrap .i64 (e+a)))) (Int.tmod (wrap .i64 ((wrap .i64 ((d.getD (0+(Int.toNat (wrap .i64 (e+a)))) 0)+(c.getD a.toNat 0)))+f)) 1000000000),e,wrap .i64 (Int.tdiv (wrap .i64 ((wrap .i64 ((d.getD (0+(Int.toNat (wrap .i64 (e+a)))) 0)+(c.getD a.toNat 0)))+f)) 1000000000),h,())else none else none else none else none else none else none else if decide (0<=(wrap .i64 (e+(h.length:Int))))then if decide ((wrap .i64 (e+(h.length:Int)))<(d.length:Int))then if decide (0<=(wrap .i64 (e+(h.length:Int))))then if decide ((wrap .i64 (e+(h.length:Int)))<(d.length:Int))then some ((),d.set (0+(Int.toNat (wrap .i64 (e+(h.length:Int))))) (wrap .i64 ((d.getD (0+(Int.toNat (wrap .i64 (e+(h.length:Int))))) 0)+f)),())else none else none else none else none) x1.1 x1.2.1 x1.2.2.2.2.1 x1.2.2.2.2.2.1 x1.2.2.1 x1.2.2.2.1 x1.2.2.2.2.2.2.1
def P.s_l01PutBack (k:Nat) (x:List Int×List Int×Int×Unit):Option (Unit×List Int×Unit):=
 loopP P.s_l01PutBack_b0 k (0,(x.2.1.length:Int),x.2.1,x.1,x.2.2.1,0,x.2.1,())
def S.s_l01PutBack (x:((List Int)×((List Int)×(Int×Unit)))):(Option (Unit×((List Int)×Unit))):=
 if 0<=x.2.2.1/\x.2.2.1.toNat+x.2.1.length<x.1.length/\dig B10 ((x.1.drop x.2.2.1.toNat).take x.2.1.length)=true/\dig B10 x.2.1=true/\ -1000000000<=x.1.getD (x.2.2.1.toNat+x.2.1.length) 0/\x.1.getD (x.2.2.1.toNat+x.2.1.length) 0<=1000000000/\x.1.length<=1000000000000 then
  let T:Int:=((dval B10 ((x.1.drop x.2.2.1.toNat).take x.2.1.length):Nat):Int)+((B10^x.2.1.length:Nat):Int)*x.1.getD (x.2.2.1.toNat+x.2.1.length) 0+((dval B10 x.2.1:Nat):Int)
  some ((),(x.1.take x.2.2.1.toNat++fd B10 x.2.1.length (T%((B10^x.2.1.length:Nat):Int)).toNat)++(T/((B10^x.2.1.length:Nat):Int))::x.1.drop (x.2.2.1.toNat+x.2.1.length+1),())
 else none
theorem putBack_main (us vs W:List Int) (j:Nat) (hW:(us.drop j).take vs.length=W) (hl:j+vs.length<us.length) (hw:dig B10 W=true) (hv:dig B10 vs=true) (ht0: -1000000000<=us.getD (j+vs.length) 0) (ht1:us.getD (j+vs.length) 0<=1000000000) (hbig:us.length<=1000000000000):
  P.s_l01PutBack (vs.length+1) (us,(vs,((j:Int),())))=some ((),(us.take j++fd B10 vs.length ((((dval B10 W:Nat):Int)+((B10^vs.length:Nat):Int)*us.getD (j+vs.length) 0+((dval B10 vs:Nat):Int))%((B10^vs.length:Nat):Int)).toNat)++((((dval B10 W:Nat):Int)+((B10^vs.length:Nat):Int)*us.getD (j+vs.length) 0+((dval B10 vs:Nat):Int))/((B10^vs.length:Nat):Int))::us.drop (j+vs.length+1),()):=by
 have hWg:∀i,i<vs.length->W.getD i 0=us.getD (j+i) 0:=by
  intro i hi;rw[<-hW,win_getD hi]
 have hWl:W.length=vs.length:=by rw[<-hW];simp;omega
 unfold P.s_l01PutBack;dsimp only;have key:=loop_up0 (k:=vs.length+1) (b:=P.s_l01PutBack_b0) (n:=vs.length) (st:=fun i=>((i:Int),(vs.length:Int),vs,(us.take j++(addUp B10 W vs i).1)++us.drop (j+i),(j:Int),((addUp B10 W vs i).2:Int),vs,())) (F:=fun i=>some ((),(us.take j++fd B10 vs.length ((((dval B10 W:Nat):Int)+((B10^vs.length:Nat):Int)*us.getD (j+vs.length) 0+((dval B10 vs:Nat):Int))%((B10^vs.length:Nat):Int)).toNat)++((((dval B10 W:Nat):Int)+((B10^vs.length:Nat):Int)*us.getD (j+vs.length) 0+((dval B10 vs:Nat):Int))/((B10^vs.length:Nat):Int))::us.drop (j+vs.length+1),())) (fun i g hi hg=>by
  unfold P.s_l01PutBack_b0;dsimp only at hg ⊢;refine Eq.trans ?_ hg;clear hg;obtain⟨q1,q2,q3,q4⟩:=addUp_ok B10_le hw hv i;have gx:=dig_getD (B:=B10) (by decide) hw i;have gy:=dig_getD (B:=B10) (by decide) hv i;have gx1:W.getD i 0<1000000000:=gx.2;have gy1:vs.getD i 0<1000000000:=gy.2;have gx0:=gx.1;have gy0:=gy.1;have hAl:(us.take j++(addUp B10 W vs i).1).length=j+i:=by rw[List.length_append,q2,List.length_take];omega
  have hlen:((us.take j++(addUp B10 W vs i).1)++us.drop (j+i)).length=us.length:=by rw[List.length_append,hAl,List.length_drop];omega
  have e1:(i:Int)<(vs.length:Int):=by omega
  have e2:(0:Int)<=(i:Int):=by omega
  have e3:(0:Int)<=((j+i:Nat):Int):=by omega
  have e4:((j+i:Nat):Int)<(us.length:Int):=by omega
  rw[hlen,<-Int.natCast_add,wr (x:=((j+i:Nat):Int)) (by omega) (by omega)];simp only[e1,e2,e3,e4,decide_true,if_true,Nat.zero_add,Int.toNat_natCast];rw[drop_cons_getD (xs:=us) (i:=j+i) (by omega),mid_get hAl];simp only[mid_set hAl];rw[<-hWg i hi,addUp];dsimp only;generalize W.getD i 0=x at*;generalize vs.getD i 0=y at*;generalize addUp B10 W vs i=p at*;obtain⟨pl,c0⟩:=p;dsimp only at*;obtain⟨X,rfl⟩:∃Y:Nat,x=(Y:Int):=⟨x.toNat,by omega⟩
  obtain⟨Y,rfl⟩:∃Y:Nat,y=(Y:Int):=⟨y.toNat,by omega⟩
  rw[Int.toNat_natCast,Int.toNat_natCast];rw[wr (x:=(X:Int)+(Y:Int)) (by omega) (by omega),wr (x:=(X:Int)+(Y:Int)+(c0:Int)) (by omega) (by omega),Int.tmod_eq_emod_of_nonneg (by omega),Int.tdiv_eq_ediv_of_nonneg (by omega)];have e8:((X:Int)+(Y:Int)+(c0:Int))%1000000000=(((c0+X+Y)%B10:Nat):Int):=by
   show _=(((c0+X+Y)%1000000000:Nat):Int)
   omega
  have e9:((X:Int)+(Y:Int)+(c0:Int))/1000000000=(((c0+X+Y)/B10:Nat):Int):=by
   show _=(((c0+X+Y)/1000000000:Nat):Int)
   omega
  have b2:(c0+X+Y)/B10<=1000000000:=by
   show(c0+X+Y)/1000000000<=1000000000;omega
  rw[e8,e9,wr (x:=(((c0+X+Y)/B10:Nat):Int)) (by omega) (by omega),wr (x:=(i:Int)+1) (by omega) (by omega),<-Nat.add_assoc j i 1,<-List.append_assoc (us.take j)];rfl) (fun g=>by
  unfold P.s_l01PutBack_b0;dsimp only;obtain⟨q1,q2,q3,q4⟩:=addUp_ok B10_le hw hv vs.length;rw[List.take_length,<-hWl,List.take_length,hWl]at q3;have hAl:(us.take j++(addUp B10 W vs vs.length).1).length=j+vs.length:=by rw[List.length_append,q2,List.length_take];omega
  have hlen:((us.take j++(addUp B10 W vs vs.length).1)++us.drop (j+vs.length)).length=us.length:=by rw[List.length_append,hAl,List.length_drop];omega
  have e3:(0:Int)<=((j+vs.length:Nat):Int):=by omega
  have e4:((j+vs.length:Nat):Int)<(us.length:Int):=by omega
  have e5:¬((vs.length:Int)<(vs.length:Int)):=by omega
  rw[<-Int.natCast_add,wr (x:=((j+vs.length:Nat):Int)) (by omega) (by omega)];simp only[e3,e4,e5,decide_true,decide_false,if_true,Nat.zero_add,Int.toNat_natCast,hlen,Bool.false_eq_true,if_false];rw[drop_cons_getD (xs:=us) (i:=j+vs.length) (by omega),mid_get hAl,mid_set hAl,List.append_assoc _ [_],List.singleton_append];generalize addUp B10 W vs vs.length=p at*;obtain⟨pl,c0⟩:=p;dsimp only at*;generalize us.getD (j+vs.length) 0=top at*;rw[wr (x:=top+(c0:Int)) (by omega) (by omega)];have hlt:=dval_lt q1;rw[q2]at hlt;have eT:((dval B10 W:Nat):Int)+((B10^vs.length:Nat):Int)*top+((dval B10 vs:Nat):Int)=((dval B10 pl:Nat):Int)+((B10^vs.length:Nat):Int)*(top+(c0:Int)):=by
   rw[Int.mul_add,<-Int.natCast_mul];omega
  rw[eT,(ediv_top hlt _).1,(ediv_top hlt _).2,Int.toNat_natCast,<-fd_eq B10_le q1 q2 rfl]) (by omega)
 have e0:(us.take j++(addUp B10 W vs 0).1)++us.drop (j+0)=us:=by
  show(us.take j++[])++us.drop j=us;rw[List.append_nil,List.take_append_drop]
 rw[e0]at key;exact key
theorem S.s_l01PutBack_ok (x r) (h:S.s_l01PutBack x=some r):∃k,P.s_l01PutBack k x=some r:=by
 obtain⟨us,vs,j',u⟩:=x;unfold S.s_l01PutBack at h;dsimp only at h;split at h
 case isFalse=>cases h
 rename_i hc;obtain⟨hj0,hl,hw,hv,ht0,ht1,hbig⟩:=hc;obtain⟨j,rfl⟩:∃d:Nat,j'=(d:Int):=⟨j'.toNat,by omega⟩
 refine⟨vs.length+1,?_⟩;rw[<-h];exact putBack_main us vs _ j rfl hl hw hv ht0 ht1 hbig
end Go.Cm
end
