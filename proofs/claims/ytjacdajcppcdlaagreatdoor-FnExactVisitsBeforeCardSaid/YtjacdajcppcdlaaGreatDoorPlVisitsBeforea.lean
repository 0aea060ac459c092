import Derived.Test.YtjacdajcppcdlaaGreatDoorCmZI
import Derived.Test.YtjacdajcppcdlaaGreatDoorCmXz
import Derived.Lib.Bits
import Derived.Lib.IndexMore
import Derived.Lib.ParseIntB
import Derived.Lib.Repeat
import Derived.Lib.Strings
set_option linter.unusedVariables false
set_option maxRecDepth 100000
noncomputable section
namespace Go.Cm
abbrev RB:=Bool×((List Int)×(List Int))
open IntKind (wrap)
abbrev P.b1p (x1:Int×List ByteArray×Int×Unit) (g2:Int×List ByteArray×Int×Unit->Option (Int×Unit)):Option (Int×Unit):=
 if decide (x1.1<(x1.2.1.length:Int))then if decide (0<=x1.1)then if decide (x1.1<(x1.2.1.length:Int))then if decide ((wrap .i64 (x1.2.2.1 - (ByteArray.size (x1.2.1.getD x1.1.toNat (bs [])):Int)))<0)then some ((-1:Int),())else g2 (wrap .i64 (x1.1+1),x1.2.1,wrap .i64 (x1.2.2.1 - (ByteArray.size (x1.2.1.getD x1.1.toNat (bs [])):Int)),())else none else none else some (x1.2.2.1,())
def P.c2f (k:Nat) (x:List ByteArray×Int×Unit):Option (Int×Unit):=
 if decide ((wrap .i64 (x.2.1 - (x.1.length:Int)))<0)then some ((-1:Int),())else loopP P.b1p k (0,x.1,wrap .i64 (x.2.1 - (x.1.length:Int)),())
def szGo:List ByteArray->Int->Int
 | [],l=>l
 |x::xs,l=>if l - (x.size:Int)<0 then -1 else szGo xs (l - (x.size:Int))
def szS (xs:List ByteArray) (left:Int):Int:=if left - (xs.length:Int)<0 then -1 else szGo xs (left - (xs.length:Int))
theorem d9a:∀(xs:List ByteArray) (l:Int),0<=l->szGo xs l<=l/\ -1<=szGo xs l
 | [],l,h=>by simp [szGo];omega
 |x::xs,l,h=>by
  simp only[szGo];split
  ·omega
  ·have:=d9a xs (l - (x.size:Int)) (by omega);omega
theorem szS_le (xs:List ByteArray) (l:Int) (h:0<=l):szS xs l<=l/\ -1<=szS xs l:=by
 unfold szS;split
 ·omega
 ·have:=d9a xs (l - (xs.length:Int)) (by omega);omega
theorem szS_len (xs:List ByteArray) (l:Int) (h:0<=szS xs l):(xs.length:Int)<=l:=by
 unfold szS at h;split at h<;>omega
abbrev okTexts (xs:List ByteArray):Prop:=xs.length<=9223372036854775807/\∀x∈xs,x.size<=9223372036854775807
open Classical in
def S.b0y (x:((List ByteArray)×(Int×Unit))):(Option (Int×Unit)):=if okTexts x.1/\0<=x.2.1/\x.2.1<=1000000 then some (szS x.1 x.2.1,())else none
theorem S.d5d (x r) (h:S.b0y x=some r):∃k,P.c2f k x=some r:=by
 obtain⟨xs,left,u⟩:=x;unfold S.b0y at h;split at h
 case isFalse=>cases h
 rename_i hc;obtain⟨⟨hl,hs⟩,h0,h1⟩:=hc;cases h;refine⟨xs.length+1,?_⟩;unfold P.c2f szS;dsimp only at hl hs h0 h1 ⊢;rw[wr (by omega) (by omega)]
 by_cases hn:left - (xs.length:Int)<0
 ·simp [hn]
 ·simp only[hn,decide_false,Bool.false_eq_true,if_false];have key:∀m i k l,i+m=xs.length->m<k->0<=l->l<=1000000->loopP P.b1p k ((i:Int),xs,l,())=some (szGo (xs.drop i) l,()):=by
   intro m
   induction m with
   |zero=>
    intro i k l hi hk h0 h1;cases k with
    |zero=>omega
    |succ k=>
     have:i=xs.length:=by omega
     subst this;simp [a0l,P.b1p,szGo]
   |succ m ih=>
    intro i k l hi hk h0 h1;cases k with
    |zero=>omega
    |succ k=>
     have hi':i<xs.length:=by omega
     have hsz:=hs xs[i] (List.getElem_mem hi');rw[a0l];unfold P.b1p;rw[List.drop_eq_getElem_cons hi'];dsimp only;rw[a0o xs i _ hi',wr (by omega) (by omega),wr (x:=(i:Int)+1) (by omega) (by omega)];have e1:(i:Int)<(xs.length:Int):=by omega
     have e2:(0:Int)<=(i:Int):=by omega
     simp only[e1,e2,decide_true,if_true,szGo]
     by_cases hq:l - (xs[i].size:Int)<0
     ·simp [hq]
     ·simp only[hq,decide_false,Bool.false_eq_true,if_false];have:=ih (i+1) k (l - (xs[i].size:Int)) (by omega) (by omega) (by omega) (by omega);rw[<-this];rfl
  have:=key xs.length 0 (xs.length+1) (left - (xs.length:Int)) (by omega) (by omega) (by omega) (by omega);rw[List.drop_zero]at this;exact this
abbrev P.a9s (x1:Int×List (List ByteArray)×Int×Unit) (g2:Int×List (List ByteArray)×Int×Unit->Option (Int×Unit)):Option (Int×Unit):=
 if decide (x1.1<(x1.2.1.length:Int))then if decide (0<=x1.1)then if decide (x1.1<(x1.2.1.length:Int))then(S.b0y (x1.2.1.getD x1.1.toNat [],x1.2.2.1,())).bind fun y3=>if decide (y3.1<0)then some ((-1:Int),())else g2 (wrap .i64 (x1.1+1),x1.2.1,y3.1,())else none else none else some (x1.2.2.1,())
def P.b9l (k:Nat) (x:List (List ByteArray)×Int×Unit):Option (Int×Unit):=
 if decide ((wrap .i64 (x.2.1 - (x.1.length:Int)))<0)then some ((-1:Int),())else loopP P.a9s k (0,x.1,wrap .i64 (x.2.1 - (x.1.length:Int)),())
def c3s:List (List ByteArray)->Int->Int
 | [],l=>l
 |x::xs,l=>if szS x l<0 then -1 else c3s xs (szS x l)
def sz2 (xs:List (List ByteArray)) (left:Int):Int:=if left - (xs.length:Int)<0 then -1 else c3s xs (left - (xs.length:Int))
theorem sz2Go_le:∀(xs:List (List ByteArray)) (l:Int),0<=l->c3s xs l<=l/\ -1<=c3s xs l/\(0<=c3s xs l->∀x∈xs,(x.length:Int)<=l)
 | [],l,h=>by simp [c3s];omega
 |x::xs,l,h=>by
  have a:=szS_le x l h;simp only[c3s];split
  ·exact⟨by omega,by omega,fun h0=>by omega⟩
  ·obtain⟨b1,b2,b3⟩:=sz2Go_le xs (szS x l) (by omega);refine⟨by omega,b2,fun h0 y hy=> ?_⟩;rcases List.mem_cons.1 hy with rfl|hy
   ·exact szS_len y l (by omega)
   ·have:=b3 h0 y hy;omega
theorem sz2_le (xs:List (List ByteArray)) (l:Int) (h:0<=l):sz2 xs l<=l/\ -1<=sz2 xs l/\(0<=sz2 xs l->(xs.length:Int)<=l/\∀x∈xs,(x.length:Int)<=l):=by
 unfold sz2;split
 ·exact⟨by omega,by omega,fun h0=>by omega⟩
 ·obtain⟨a,b,c⟩:=sz2Go_le xs (l - (xs.length:Int)) (by omega);refine⟨by omega,b,fun h0=>⟨by omega,fun x hx=> ?_⟩⟩;have:=c h0 x hx;omega
abbrev okTT (xs:List (List ByteArray)):Prop:=xs.length<=9223372036854775807/\∀x∈xs,okTexts x
open Classical in
def S.a5d (x:((List (List ByteArray))×(Int×Unit))):(Option (Int×Unit)):=if okTT x.1/\x.2.1<=1000000/\(0<=x.2.1\/ -1000000000000000<=x.2.1/\x.1.length<=1000000000000000)then some (sz2 x.1 x.2.1,())else none
theorem S.d1c (x r) (h:S.a5d x=some r):∃k,P.b9l k x=some r:=by
 obtain⟨xs,left,u⟩:=x;unfold S.a5d at h;split at h
 case isFalse=>cases h
 rename_i hc;obtain⟨⟨hl,hs⟩,h1,h0⟩:=hc;cases h;refine⟨xs.length+1,?_⟩;unfold P.b9l sz2;dsimp only at hl hs h0 h1 ⊢;rw[wr (by omega) (by omega)]
 by_cases hn:left - (xs.length:Int)<0
 ·simp [hn]
 ·simp only[hn,decide_false,Bool.false_eq_true,if_false];have key:∀m i k l,i+m=xs.length->m<k->0<=l->l<=1000000->loopP P.a9s k ((i:Int),xs,l,())=some (c3s (xs.drop i) l,()):=by
   intro m
   induction m with
   |zero=>
    intro i k l hi hk h0 h1;cases k with
    |zero=>omega
    |succ k=>
     have:i=xs.length:=by omega
     subst this;simp [a0l,P.a9s,c3s]
   |succ m ih=>
    intro i k l hi hk h0 h1;cases k with
    |zero=>omega
    |succ k=>
     have hi':i<xs.length:=by omega
     have hsz:=hs xs[i] (List.getElem_mem hi');rw[a0l];unfold P.a9s;rw[List.drop_eq_getElem_cons hi'];dsimp only;have e1:(i:Int)<(xs.length:Int):=by omega
     have e2:(0:Int)<=(i:Int):=by omega
     have a:=szS_le xs[i] l h0;have es:S.b0y (xs[i],l,())=some (szS xs[i] l,()):=by
      unfold S.b0y;rw[if_pos ⟨hsz,h0,h1⟩]
     rw[a0o xs i _ hi',wr (x:=(i:Int)+1) (by omega) (by omega),es];simp only[e1,e2,decide_true,if_true,c3s,Option.bind_some]
     by_cases hq:szS xs[i] l<0
     ·simp [hq]
     ·simp only[hq,decide_false,Bool.false_eq_true,if_false];have:=ih (i+1) k (szS xs[i] l) (by omega) (by omega) (by omega) (by omega);rw[<-this];rfl
  have:=key xs.length 0 (xs.length+1) (left - (xs.length:Int)) (by omega) (by omega) (by omega) (by omega);rw[List.drop_zero]at this;exact this
def P.b9m (k:Nat) (x:List (List ByteArray)×Int×Unit):Option (Int×Unit):=
 (S.a5d (x.1,x.2.1,())).bind fun y0=>if decide (y0.1<0)then some ((-1:Int),())else some (y0.1,())
def S.b4r (x:((List (List ByteArray))×(Int×Unit))):(Option (Int×Unit)):=P.b9m 0 x
theorem S.e4e (x r) (h:S.b4r x=some r):∃k,P.b9m k x=some r:=⟨0,h⟩
abbrev P.b1q (x1:Int×List ByteArray×List ByteArray×Unit) (g2:Int×List ByteArray×List ByteArray×Unit->Option (Bool×Unit)):Option (Bool×Unit):=
 if decide (x1.1<(x1.2.1.length:Int))then if decide (0<=x1.1)then if decide (x1.1<(x1.2.1.length:Int))then if decide (0<=x1.1)then if decide (x1.1<(x1.2.2.1.length:Int))then if ! ((ByteArray.toList (x1.2.1.getD x1.1.toNat (bs [])))==(ByteArray.toList (x1.2.2.1.getD x1.1.toNat (bs []))))then some (false,())else g2 (wrap .i64 (x1.1+1),x1.2.1,x1.2.2.1,())else none else none else none else none else some (true,())
def P.c2g (k:Nat) (x:List ByteArray×List ByteArray×Unit):Option (Bool×Unit):=
 if(x.1.length:Int) != (x.2.1.length:Int)then some (false,())else loopP P.b1q k (0,x.1,x.2.1,())
def S.a2j (x:((List ByteArray)×((List ByteArray)×Unit))):(Option (Bool×Unit)):=if x.1.length<=9223372036854775807 then some (b2s x.1 x.2.1,())else none
theorem S.d5e (x r) (h:S.a2j x=some r):∃k,P.c2g k x=some r:=by
 obtain⟨xs,ys,u⟩:=x;unfold S.a2j at h;dsimp only at h;split at h
 case isFalse=>cases h
 rename_i hc;cases h;refine⟨xs.length+1,?_⟩;unfold P.c2g;dsimp only
 by_cases hl:xs.length=ys.length
 ·have e0:((xs.length:Int) != (ys.length:Int))=false:=by simp [hl]
  rw[if_neg (by rw[e0];simp)];have:=a0f (b:=P.b1q) (n:=xs.length) (st:=fun i=>((i:Int),xs,ys,())) (F:=fun i=>some (b2s (xs.drop i) (ys.drop i),())) (fun i g hi hg=>by
   have hy:i<ys.length:=by omega
   unfold P.b1q;dsimp only at hg ⊢;have e1:(i:Int)<(xs.length:Int):=by omega
   have e1':(i:Int)<(ys.length:Int):=by omega
   have e2:(0:Int)<=(i:Int):=by omega
   simp only[e1,e1',e2,decide_true,if_true];rw[a0o xs i _ hi,a0o ys i _ hy,wr (x:=(i:Int)+1) (by omega) (by omega),e4s hi hy]
   by_cases hq:(xs[i].toList==ys[i].toList)=true
   ·simp only[hq,Bool.not_true,Bool.false_eq_true,if_false,Bool.true_and];exact hg
   ·have hq':(xs[i].toList==ys[i].toList)=false:=by simpa using hq
    simp only[hq',Bool.not_false,if_true,Bool.false_and]) (fun g=>by
   unfold P.b1q;have e1:¬((xs.length:Int)<(xs.length:Int)):=by omega
   simp only[e1,decide_false,Bool.false_eq_true,if_false];rw[List.drop_length,hl,List.drop_length];rfl) (Nat.lt_succ_self _)
  simpa using this
 ·rw[if_pos (by simp;omega),eqTexts_len hl]
abbrev P.b3f (x1:Int×ByteArray×Unit) (g2:Int×ByteArray×Unit->Option (ByteArray×Unit)):Option (ByteArray×Unit):=
 if decide (x1.1>0)then if decide (((ByteArray.size (c0c [wrap .u8 (wrap .i64 (48+(Int.tmod x1.1 10)))]))+x1.2.1.size)<=9223372036854775807)then g2 (wrap .i64 (Int.tdiv x1.1 10),(c0c [wrap .u8 (wrap .i64 (48+(Int.tmod x1.1 10)))])++x1.2.1,())else none else if decide ((1+x1.2.1.size)<=9223372036854775807)then some ((bs [109])++x1.2.1,())else none
def P.c0u (k:Nat) (x:Int×Unit):Option (ByteArray×Unit):=
 if decide (x.1<=0)then some ((bs [109,48]),())else loopP P.b3f k (x.1,bs [],())
theorem mark_loop:∀(k:Nat) (n:Int) (t:ByteArray),0<=n->n<10^k->n<=1000000000000->t.size<=1000 - k->k<=100->∃r,loopP P.b3f (k+1) (n,(t,()))=some (r,()):=by
 intro k
 induction k with
 |zero=>
  intro n t h0 h1 hm ht hk;have hn:n=0:=by
   have:(10:Int)^0=1:=rfl;omega
  subst hn;refine⟨bs [109]++t,?_⟩;rw[a0l];unfold P.b3f;dsimp only;rw[if_neg (by simp),if_pos (decide_eq_true (by omega))]
 |succ k ih=>
  intro n t h0 h1 hm ht hk;rw[a0l];unfold P.b3f;dsimp only
  by_cases hp:n>0
  ·have hsz:∀z:Int,(c0c [z]).size=1:=fun z=>rfl
   rw[if_pos (decide_eq_true hp),if_pos (decide_eq_true (by rw[hsz];omega))];have hd:Int.tdiv n 10=n/10:=Int.tdiv_eq_ediv_of_nonneg h0;have hb:n/10<10^k:=by
    rw[Int.pow_succ]at h1;omega
   rw[hd,wr (x:=n/10) (by omega) (by omega)]
   exact ih (n/10) _ (by omega) hb (by omega) (by
    rw[ByteArray.size_append,hsz];omega) (by omega)
  ·rw[if_neg (by simpa using hp),if_pos (decide_eq_true (by omega))];exact⟨_,rfl⟩
def S.a7c (x:(Int×Unit)):(Option (ByteArray×Unit)):=if 0<=x.1/\x.1<=1000000000000 then P.c0u 14 x else none
theorem S.d9b (x r) (h:S.a7c x=some r):∃k,P.c0u k x=some r:=by
 unfold S.a7c at h;split at h
 case isFalse=>cases h
 exact⟨14,h⟩
def mkT (n:Int):ByteArray:=match S.a7c (n,())with
 |some r=>r.1
 |none=>bs []
theorem mkT_eq {n:Int} (h0:0<=n) (h1:n<=1000000000000):S.a7c (n,())=some (mkT n,()):=by
 have:∃t,S.a7c (n,())=some (t,()):=by
  unfold S.a7c;dsimp only;rw[if_pos ⟨h0,h1⟩];unfold P.c0u;dsimp only
  by_cases hn:n<=0
  ·rw[if_pos (decide_eq_true hn)];exact⟨_,rfl⟩
  ·rw[if_neg (by simpa using hn)];exact mark_loop 13 n _ h0 (by have:(10:Int)^13=10000000000000:=rfl;omega) h1 (by decide) (by decide)
 obtain⟨t,ht⟩:=this;unfold mkT;rw[ht]
def b6m (q:Int):Nat->List ByteArray
 |0=>[]
 |n+1=>b6m q n++[mkT (q+(n:Int))]
theorem a7r (q:Int) (n:Nat):(b6m q n).length=n:=by
 induction n with
 |zero=>rfl
 |succ n ih=>rw[b6m,List.length_append,ih];rfl
theorem marks_get (q:Int) (n i:Nat) (hi:i<n):(b6m q n)[i]'(by rw[a7r];exact hi)=mkT (q+(i:Int)):=by
 induction n with
 |zero=>omega
 |succ n ih=>
  unfold b6m
  by_cases h:i<n
  ·rw[List.getElem_append_left (by rw[a7r];exact h)];exact ih h
  ·have:i=n:=by omega
   subst this;rw[List.getElem_append_right (by rw[a7r];exact Nat.le_refl _)];simp [a7r]
abbrev P.a8d (x1:Int×List ByteArray×Int×Unit) (g2:Int×List ByteArray×Int×Unit->Option (Int×List ByteArray×Unit)):Option (Int×List ByteArray×Unit):=
 if decide (x1.1<(x1.2.1.length:Int))then(S.a7c (x1.2.2.1,())).bind fun y3=>if decide (0<=x1.1)then if decide (x1.1<(x1.2.1.length:Int))then g2 (wrap .i64 (x1.1+1),x1.2.1.set (0+x1.1.toNat) y3.1,wrap .i64 (x1.2.2.1+1),())else none else none else some (x1.2.2.1,x1.2.1,())
def P.b7m (k:Nat) (x:List ByteArray×Int×Unit):Option (Int×List ByteArray×Unit):=
 loopP P.a8d k (0,x.1,x.2.1,())
def S.a3k (x:((List ByteArray)×(Int×Unit))):(Option (Int×((List ByteArray)×Unit))):=if 0<=x.2.1/\x.2.1<=100000000/\x.1.length<=10000000 then some (x.2.1+(x.1.length:Int),(b6m x.2.1 x.1.length,()))else none
theorem S.c8t (x r) (h:S.a3k x=some r):∃k,P.b7m k x=some r:=by
 obtain⟨xs,q,u⟩:=x;unfold S.a3k at h;dsimp only at h;split at h
 case isFalse=>cases h
 rename_i hc;obtain⟨h0,h1,h2⟩:=hc;cases h;refine⟨xs.length+1,?_⟩;unfold P.b7m;have key:=a0f (k:=xs.length+1) (b:=P.a8d) (n:=xs.length) (st:=fun i=>((i:Int),(b6m q i++xs.drop i,(q+(i:Int),())))) (F:=fun i=>some (q+(xs.length:Int),(b6m q xs.length,()))) (fun i g hi hg=>by
  unfold P.a8d;dsimp only at hg ⊢;have hlen:(b6m q i++xs.drop i).length=xs.length:=by rw[List.length_append,a7r,List.length_drop];omega
  have e1:(i:Int)<(xs.length:Int):=by omega
  have e2:(0:Int)<=(i:Int):=by omega
  rw[hlen,if_pos (decide_eq_true e1),mkT_eq (by omega) (by omega),Option.bind_some];dsimp only;rw[if_pos (decide_eq_true e2),if_pos (decide_eq_true e1),wr (by omega) (by omega),wr (by omega) (by omega),Nat.zero_add,Int.toNat_natCast];have hset:(b6m q i++xs.drop i).set i (mkT (q+(i:Int)))=b6m q (i+1)++xs.drop (i+1):=by
   rw[List.set_append_right _ _ (by rw[a7r];exact Nat.le_refl _),a7r,Nat.sub_self,List.drop_eq_getElem_cons hi,List.set_cons_zero,b6m,List.append_assoc];rfl
  rw[hset,show(i:Int)+1=((i+1:Nat):Int) by omega,show q+(i:Int)+1=q+((i+1:Nat):Int) by omega];exact hg) (fun g=>by
  unfold P.a8d;dsimp only;have hlen:(b6m q xs.length++xs.drop xs.length).length=xs.length:=by rw[List.length_append,a7r,List.length_drop];omega
  rw[hlen,if_neg (by simp),List.drop_length,List.append_nil]) (by omega)
 refine Eq.trans ?_ key;rw[show q+((0:Nat):Int)=q by omega];rfl
abbrev P.a8e (x1:Int×List ByteArray×Int×Unit) (g2:Int×List ByteArray×Int×Unit->Option (Int×Unit)):Option (Int×Unit):=
 if decide (x1.1<(x1.2.1.length:Int))then if decide (0<=x1.1)then if decide (x1.1<(x1.2.1.length:Int))then(S.a7c (x1.2.2.1,())).bind fun y3=>if ! ((ByteArray.toList (x1.2.1.getD x1.1.toNat (bs [])))==(ByteArray.toList y3.1))then some ((-1:Int),())else g2 (wrap .i64 (x1.1+1),x1.2.1,wrap .i64 (x1.2.2.1+1),())else none else none else some (x1.2.2.1,())
def P.b7n (k:Nat) (x:List ByteArray×Int×Unit):Option (Int×Unit):=
 loopP P.a8e k (0,x.1,x.2.1,())
open Classical in
def S.a5n (x:((List ByteArray)×(Int×Unit))):(Option (Int×Unit)):=if 0<=x.2.1/\x.2.1<=100000000/\x.1.length<=10000000/\x.1=b6m x.2.1 x.1.length then some (x.2.1+(x.1.length:Int),())else none
theorem S.c8u (x r) (h:S.a5n x=some r):∃k,P.b7n k x=some r:=by
 obtain⟨xs,q,u⟩:=x;unfold S.a5n at h;dsimp only at h;split at h
 case isFalse=>cases h
 rename_i hc;obtain⟨h0,h1,h2,h3⟩:=hc;cases h;refine⟨xs.length+1,?_⟩;unfold P.b7n;have key:=a0f (k:=xs.length+1) (b:=P.a8e) (n:=xs.length) (st:=fun i=>((i:Int),(xs,(q+(i:Int),())))) (F:=fun i=>some (q+(xs.length:Int),())) (fun i g hi hg=>by
  unfold P.a8e;dsimp only at hg ⊢;have e1:(i:Int)<(xs.length:Int):=by omega
  have e2:(0:Int)<=(i:Int):=by omega
  have hx:xs[i]=mkT (q+(i:Int)):=by
   have:=marks_get q xs.length i hi;rw[<-this];congr 1
  rw[if_pos (decide_eq_true e1),if_pos (decide_eq_true e2),if_pos (decide_eq_true e1),mkT_eq (by omega) (by omega),Option.bind_some,a0o xs i _ hi,hx];dsimp only;rw[beq_self_eq_true,if_neg (by decide),wr (by omega) (by omega),wr (by omega) (by omega),show(i:Int)+1=((i+1:Nat):Int) by omega,show q+(i:Int)+1=q+((i+1:Nat):Int) by omega];exact hg) (fun g=>by
  unfold P.a8e;dsimp only;rw[if_neg (by simp)]) (by omega)
 refine Eq.trans ?_ key;rw[show q+((0:Nat):Int)=q by omega];rfl
def P.a5e (k:Nat) (x:Int×Unit):Option (Int×Unit):=
 if(Int.tmod x.1 6)==5 then some (0,())else if(Int.tmod x.1 3)==0 then some (1,())else some (x.1,())
def S.a0u (x:(Int×Unit)):(Option (Int×Unit)):=P.a5e 0 x
theorem S.d1d (x r) (h:S.a0u x=some r):∃k,P.a5e k x=some r:=⟨0,h⟩
abbrev l_toInt64So.A:=Int×List Int×List Int×Unit
abbrev l_toInt64So.B:=Option ((List Int×Nat)×Unit)
abbrev P.a7s (x5:l_toInt64So.A) (g6:l_toInt64So.A->l_toInt64So.B):l_toInt64So.B:=
 (fun(a:Int) (b c:List Int)=>if decide (a<(b.length:Int))then if decide (0<=a)then if decide (a<(b.length:Int))then g6 (wrap .i64 (a+1),b.set (0+a.toNat) (-7000000000000000101:Int),c,())else none else none else if decide (0<=(c.length:Int))then if decide (((c.length:Int)+0)<=(b.length:Int))then if decide (0<=(c.length:Int))then some ((b,(Int.toNat (c.length:Int)) - 0),())else none else none else none) x5.1 x5.2.1 x5.2.2.1
abbrev P.a4l (k:Nat) (x2:l_toInt64So.A) (g3:l_toInt64So.A->l_toInt64So.B):l_toInt64So.B:=
 (fun(a:Int) (b c:List Int)=>if decide (a<(b.length:Int))then if decide (0<=a)then if decide (a<(b.length:Int))then if decide (0<=a)then if decide (a<(c.length:Int))then g3 (wrap .i64 (a+1),b,c.set (0+a.toNat) (b.getD a.toNat 0),())else none else none else none else none else loopP P.a7s k ((b.length:Int),c,b,())) x2.1 x2.2.1 x2.2.2.1
def P.c2h (k:Nat) (x:List Int×Bool×Unit):l_toInt64So.B:=
 if x.2.1 then if(x.1.length:Int)==0 then some ((([]:List Int),0),())else(S.a0u ((x.1.length:Int),())).bind fun y0=>if decide (0<=(wrap .i64 ((x.1.length:Int)+y0.1)))then if decide ((wrap .i64 ((x.1.length:Int)+y0.1))<=(wrap .i64 ((x.1.length:Int)+y0.1)))then if decide (((wrap .i64 ((x.1.length:Int)+y0.1))*8)<=281474976710656)then loopP (P.a4l k) k (0,x.1,List.replicate (Int.toNat (wrap .i64 ((x.1.length:Int)+y0.1))) 0,())else none else none else none else(S.a0u ((x.1.length:Int),())).bind fun y7=>if decide (0<=(wrap .i64 ((x.1.length:Int)+y7.1)))then if decide ((wrap .i64 ((x.1.length:Int)+y7.1))<=(wrap .i64 ((x.1.length:Int)+y7.1)))then if decide (((wrap .i64 ((x.1.length:Int)+y7.1))*8)<=281474976710656)then loopP (P.a4l k) k (0,x.1,List.replicate (Int.toNat (wrap .i64 ((x.1.length:Int)+y7.1))) 0,())else none else none else none
def c2i:Int:= -7000000000000000101
def S.a5o (x:((List Int)×(Bool×Unit))):(Option (((List Int)×Nat)×Unit)):=if x.1.length<=1000000 then some (tos c2i x.2.1 x.1,())else none
theorem e4f (xs:List Int) (m n k:Nat) (h:n=xs.length) (hl:n<=1000000) (hm:m<=n+1) (hk:m<k):
  loopP P.a7s k ((n:Int),xs++List.replicate m 0,xs,())=some ((xs++List.replicate m c2i,n),()):=by
 have key:=a0f (b:=P.a7s) (n:=m) (st:=fun i=>(((n+i:Nat):Int),(xs++List.replicate i c2i)++List.replicate (m - i) 0,xs,())) (F:=fun i=>some ((xs++List.replicate m c2i,n),())) (fun i g hi hg=>by
  unfold P.a7s;dsimp only at hg ⊢;have hlen:((xs++List.replicate i c2i)++List.replicate (m - i) 0).length=n+m:=by simp;omega
  simp only[hlen];have e1:((n+i:Nat):Int)<((n+m:Nat):Int):=by omega
  have e2:(0:Int)<=((n+i:Nat):Int):=by omega
  simp only[e1,e2,decide_true,if_true];rw[wr (by omega) (by omega),<-hg];congr 1;have e3:m - i=(m - (i+1))+1:=by omega
  have e4:(0+((n+i:Nat):Int).toNat)=(xs++List.replicate i c2i).length:=by rw[List.length_append,List.length_replicate];omega
  rw[e3,e4,c0w];simp only[List.replicate_succ',<-List.append_assoc,c2i];rfl) (fun g=>by
  unfold P.a7s;dsimp only;have hlen:((xs++List.replicate m c2i)++List.replicate (m - m) 0).length=n+m:=by simp;omega
  simp only[hlen];have e1:¬((n+m:Nat):Int)<((n+m:Nat):Int):=by omega
  have e2:(0:Int)<=(xs.length:Int):=by omega
  have e3:(xs.length:Int)+0<=((n+m:Nat):Int):=by omega
  simp only[e1,e2,e3,decide_true,decide_false,if_true,Bool.false_eq_true,if_false];simp [h]) hk
 simpa using key
theorem e4g (k0:Nat) (xs:List Int) (m k:Nat) (hl:xs.length<=1000000) (hm:m<=xs.length+1) (hk0:m<k0) (hk:xs.length<k):
  loopP (P.a4l k0) k ((0:Int),xs,List.replicate (xs.length+m) 0,())=some ((xs++List.replicate m c2i,xs.length),()):=by
 have key:=a0f (b:=P.a4l k0) (n:=xs.length) (st:=fun i=>((i:Int),xs,xs.take i++List.replicate (xs.length - i+m) 0,())) (F:=fun i=>some ((xs++List.replicate m c2i,xs.length),())) (fun i g hi hg=>by
  unfold P.a4l;dsimp only at hg ⊢;have hlen:(xs.take i++List.replicate (xs.length - i+m) 0).length=xs.length+m:=by simp;omega
  simp only[hlen];have e1:(i:Int)<(xs.length:Int):=by omega
  have e1':(i:Int)<((xs.length+m:Nat):Int):=by omega
  have e2:(0:Int)<=(i:Int):=by omega
  simp only[e1,e1',e2,decide_true,if_true];rw[wr (by omega) (by omega),a0o xs i _ hi,<-hg];congr 1;have e3:xs.length - i+m=(xs.length - (i+1)+m)+1:=by omega
  have e4:(0+(i:Int).toNat)=(xs.take i).length:=by simp;omega
  rw[e3,e4,c0w];simp) (fun g=>by
  unfold P.a4l;dsimp only;have e1:¬(xs.length:Int)<(xs.length:Int):=by omega
  simp only[e1,decide_false,Bool.false_eq_true,if_false];have:=e4f xs m xs.length k0 rfl hl hm hk0;simpa using this) hk
 simpa using key
theorem S.d5f (x r) (h:S.a5o x=some r):∃k,P.c2h k x=some r:=by
 obtain⟨xs,bare,u⟩:=x;unfold S.a5o at h;dsimp only at h;split at h
 case isFalse=>cases h
 rename_i hl;cases h;refine⟨xs.length+2,?_⟩;have hr:=rb_le xs.length;have go:(Option.bind (S.a0u (((List.length xs):Int),())) (fun(y0:(Int×Unit))=>(if((decide ((0:Int)<=(wrap .i64 (((List.length xs):Int)+y0.1))))=true)then(if((decide ((wrap .i64 (((List.length xs):Int)+y0.1))<=(wrap .i64 (((List.length xs):Int)+y0.1))))=true)then(if((decide (((wrap .i64 (((List.length xs):Int)+y0.1))*(8:Int))<=(281474976710656:Int)))=true)then(loopP (X:=(Int×((List Int)×((List Int)×Unit)))) (R:=(((List Int)×Nat)×Unit)) (P.a4l (xs.length+2)) (xs.length+2) ((0:Int),(xs,((List.replicate (Int.toNat (wrap .i64 (((List.length xs):Int)+y0.1))) (0:Int)),()))))
 else none)
 else none)
 else none)))=some ((xs++List.replicate (rb xs.length).toNat c2i,xs.length),()):=by
  have e0:S.a0u ((xs.length:Int),())=some (rb xs.length,()):=by
   unfold S.a0u P.a5e rb;simp only[beq_iff_eq];split
   ·rfl
   ·split<;>rfl
  rw[e0,Option.bind_some];dsimp only;rw[wr (by omega) (by omega)];have e1:(0:Int)<=(xs.length:Int)+rb xs.length:=by omega
  have e2:(xs.length:Int)+rb xs.length<=(xs.length:Int)+rb xs.length:=by omega
  have e3:((xs.length:Int)+rb xs.length)*8<=281474976710656:=by omega
  simp only[e1,e2,e3,decide_true,if_true];have e4:((xs.length:Int)+rb xs.length).toNat=xs.length+(rb xs.length).toNat:=by omega
  rw[e4];exact e4g _ xs _ _ hl (by omega) (by omega) (by omega)
 unfold P.c2h tos;dsimp only;cases bare with
 |true=>
  simp only[if_true]
  by_cases hx:xs=[]
  ·subst hx;rfl
  ·have hx':¬((((xs.length:Nat):Int)==0)=true):=by
    simp [hx]
   rw[if_neg hx',if_neg (by simp [hx])];exact go
 |false=>
  simp only[Bool.false_eq_true,if_false,false_and];exact go
abbrev P.b3g (x1:Int×List Int×List Int×Unit) (g2:Int×List Int×List Int×Unit->Option (Bool×Unit)):Option (Bool×Unit):=
 if decide (x1.1<(x1.2.1.length:Int))then if decide (0<=x1.1)then if decide (x1.1<(x1.2.1.length:Int))then if decide (0<=x1.1)then if decide (x1.1<(x1.2.2.1.length:Int))then if(x1.2.1.getD x1.1.toNat 0) != (x1.2.2.1.getD x1.1.toNat 0)then some (false,())else g2 (wrap .i64 (x1.1+1),x1.2.1,x1.2.2.1,())else none else none else none else none else some (true,())
def P.c5v (k:Nat) (x:List Int×List Int×Unit):Option (Bool×Unit):=
 if(x.1.length:Int) != (x.2.1.length:Int)then some (false,())else loopP P.b3g k (0,x.1,x.2.1,())
theorem eqI_len {xs ys:List Int} (h:xs.length≠ys.length):(xs==ys)=false:=by
 rw[beq_eq_false_iff_ne];intro e;exact h (congrArg List.length e)
theorem eqI_drop {xs ys:List Int} {i:Nat} (hx:i<xs.length) (hy:i<ys.length):(xs.drop i==ys.drop i)=((xs[i]==ys[i])&&(xs.drop (i+1)==ys.drop (i+1))):=by
 rw[List.drop_eq_getElem_cons hx,List.drop_eq_getElem_cons hy];rfl
def S.b3t (x:((List Int)×((List Int)×Unit))):(Option (Bool×Unit)):=if x.1.length<=9223372036854775807 then some ((x.1==x.2.1),())else none
theorem S.d9c (x r) (h:S.b3t x=some r):∃k,P.c5v k x=some r:=by
 obtain⟨xs,ys,u⟩:=x;unfold S.b3t at h;dsimp only at h;split at h
 case isFalse=>cases h
 rename_i hc;cases h;refine⟨xs.length+1,?_⟩;unfold P.c5v;dsimp only
 by_cases hl:xs.length=ys.length
 ·have e0:((xs.length:Int) != (ys.length:Int))=false:=by simp [hl]
  rw[if_neg (by rw[e0];simp)];have:=a0f (b:=P.b3g) (n:=xs.length) (st:=fun i=>((i:Int),xs,ys,())) (F:=fun i=>some (((xs.drop i)==(ys.drop i)),())) (fun i g hi hg=>by
   have hy:i<ys.length:=by omega
   unfold P.b3g;dsimp only at hg ⊢;have e1:(i:Int)<(xs.length:Int):=by omega
   have e1':(i:Int)<(ys.length:Int):=by omega
   have e2:(0:Int)<=(i:Int):=by omega
   simp only[e1,e1',e2,decide_true,if_true];rw[a0o xs i _ hi,a0o ys i _ hy,wr (x:=(i:Int)+1) (by omega) (by omega),eqI_drop hi hy]
   by_cases hq:(xs[i]==ys[i])=true
   ·simp only[bne,hq,Bool.not_true,Bool.false_eq_true,if_false,Bool.true_and];exact hg
   ·have hq':(xs[i]==ys[i])=false:=by simpa using hq
    simp only[bne,hq',Bool.not_false,if_true,Bool.false_and]) (fun g=>by
   unfold P.b3g;have e1:¬((xs.length:Int)<(xs.length:Int)):=by omega
   simp only[e1,decide_false,Bool.false_eq_true,if_false];rw[List.drop_length,hl,List.drop_length];rfl) (Nat.lt_succ_self _)
  simpa using this
 ·rw[if_pos (by simp;omega),eqI_len hl]
def P.b1r (k:Nat) (x:(List Int×Nat)×(List Int×Nat)×Unit):Option (Bool×Unit):=
 (S.a0u (((x.2.1.2:Nat):Int),())).bind fun y0=>if((x.1.2:Nat):Int)==((x.2.1.2:Nat):Int)then if decide (0<=(wrap .i64 (((x.2.1.2:Nat):Int)+y0.1)))then if decide ((wrap .i64 (((x.2.1.2:Nat):Int)+y0.1))<=(x.1.1.length:Int))then if decide (0<=(wrap .i64 (((x.2.1.2:Nat):Int)+y0.1)))then if decide (0<=(wrap .i64 (((x.2.1.2:Nat):Int)+y0.1)))then if decide ((wrap .i64 (((x.2.1.2:Nat):Int)+y0.1))<=(x.2.1.1.length:Int))then if decide (0<=(wrap .i64 (((x.2.1.2:Nat):Int)+y0.1)))then(S.b3t (seen x.1.1 0 ((Int.toNat (wrap .i64 (((x.2.1.2:Nat):Int)+y0.1))) - 0),seen x.2.1.1 0 ((Int.toNat (wrap .i64 (((x.2.1.2:Nat):Int)+y0.1))) - 0),())).bind fun y1=>some (y1.1,())else none else none else none else none else none else none else some (false,())
def S.a7t (x:(((List Int)×Nat)×(((List Int)×Nat)×Unit))):(Option (Bool×Unit)):=P.b1r 0 x
theorem S.c5w (x r) (h:S.a7t x=some r):∃k,P.b1r k x=some r:=⟨0,h⟩
theorem roomI_eq (n:Nat):S.a0u ((n:Int),())=some (rb n,()):=by
 unfold S.a0u P.a5e rb;simp only[beq_iff_eq];split
 ·rfl
 ·split<;>rfl
theorem tosI_false (xs:List Int) (f:Int):tos f false xs=(xs++List.replicate (rb xs.length).toNat f,xs.length):=by simp [tos]
theorem d1e (xs:List Int) (f:Int) (h:xs.length<=1000000):S.a7t (((tos f false xs).1,(tos f false xs).2),((tos f false xs).1,(tos f false xs).2),())=some (true,()):=by
 rw[tosI_false];have hr:=rb_le xs.length;unfold S.a7t P.b1r;dsimp only;rw[roomI_eq,Option.bind_some,wr (by omega) (by omega)];have hl:((xs++List.replicate (rb xs.length).toNat f).length:Int)=(xs.length:Int)+rb xs.length:=by
  rw[List.length_append,List.length_replicate];omega
 have e1:(0:Int)<=(xs.length:Int)+rb xs.length:=by omega
 have e2:(xs.length:Int)+rb xs.length<=(xs.length:Int)+rb xs.length:=by omega
 simp only[hl,e1,e2,decide_true,if_true,beq_self_eq_true];have e3:∀l:List Int,l.length<=9223372036854775807->S.b3t (l,l,())=some (true,()):=fun l hl=>by
  unfold S.b3t;dsimp only;rw[if_pos hl,beq_self_eq_true]
 rw[e3 _ (by simp [seen];omega),Option.bind_some]
abbrev P.a9t (x1:Int×List Int×Int×Unit) (g2:Int×List Int×Int×Unit->Option (Int×List Int×Unit)):Option (Int×List Int×Unit):=
 if decide (x1.1<(x1.2.1.length:Int))then if decide (0<=x1.1)then if decide (x1.1<(x1.2.1.length:Int))then g2 (wrap .i64 (x1.1+1),x1.2.1.set (0+x1.1.toNat) x1.2.2.1,wrap .i64 (x1.2.2.1+1),())else none else none else some (x1.2.2.1,x1.2.1,())
def P.b9n (k:Nat) (x:List Int×Int×Unit):Option (Int×List Int×Unit):=
 loopP P.a9t k (0,x.1,x.2.1,())
def c3t (q:Int) (n:Nat):List Int:=(List.range n).map fun i:Nat=>q+(i:Int)
theorem d1f (q:Int) (n:Nat):(c3t q n).length=n:=by simp [c3t]
theorem rampQ_succ (q:Int) (n:Nat):c3t q (n+1)=c3t q n++[q+(n:Int)]:=by simp [c3t,List.range_succ]
def S.a8x (x:((List Int)×(Int×Unit))):(Option (Int×((List Int)×Unit))):=if(0<=x.2.1/\x.2.1<=100000000)/\x.1.length<=10000000 then some (x.2.1+(x.1.length:Int),(c3t x.2.1 x.1.length,()))else none
theorem S.d1g (x r) (h:S.a8x x=some r):∃k,P.b9n k x=some r:=by
 obtain⟨xs,c,u⟩:=x;unfold S.a8x at h;dsimp only at h;split at h
 case isFalse=>cases h
 rename_i hs;obtain⟨⟨h0,h1⟩,hl⟩:=hs;cases h;refine⟨xs.length+1,?_⟩;unfold P.b9n;dsimp only;have key:=a0f (k:=xs.length+1) (b:=P.a9t) (n:=xs.length) (st:=fun i=>((i:Int),c3t c i++xs.drop i,c+(i:Int),())) (F:=fun i=>some (c+(xs.length:Int),(c3t c xs.length,()))) (fun i g hi hg=>by
  unfold P.a9t;dsimp only at hg ⊢;have hlen:(c3t c i++xs.drop i).length=xs.length:=by rw[List.length_append,d1f,List.length_drop];omega
  rw[hlen];have e1:(i:Int)<(xs.length:Int):=by omega
  have e2:(0:Int)<=(i:Int):=by omega
  simp only[e1,e2,decide_true,if_true];rw[wr (by omega) (by omega),wr (by omega) (by omega),<-hg];have e3:(c3t c i++xs.drop i).set (0+(i:Int).toNat) (c+(i:Int))=c3t c (i+1)++xs.drop (i+1):=by
   rw[List.drop_eq_getElem_cons hi,rampQ_succ];have:0+(i:Int).toNat=(c3t c i).length:=by rw[d1f];omega
   rw[this,List.set_append_right _ _ (Nat.le_refl _),Nat.sub_self,List.append_assoc];rfl
  rw[e3];congr 1
  all_goals (simp only[Prod.mk.injEq];exact⟨by omega,trivial,by omega,trivial⟩)) (fun g=>by
  unfold P.a9t;dsimp only;have hlen:(c3t c xs.length++xs.drop xs.length).length=xs.length:=by rw[List.length_append,d1f,List.length_drop];omega
  rw[hlen,if_neg (by simp)];simp) (by omega)
 have e:c+((0:Nat):Int)=c:=by omega
 rw[e]at key;exact key
def P.a9u (k:Nat) (x:(List ByteArray×Nat)×(List ByteArray×Nat)×Unit):Option (Bool×Unit):=
 (S.a0u (((x.2.1.2:Nat):Int),())).bind fun y0=>if((x.1.2:Nat):Int)==((x.2.1.2:Nat):Int)then if decide (0<=(wrap .i64 (((x.2.1.2:Nat):Int)+y0.1)))then if decide ((wrap .i64 (((x.2.1.2:Nat):Int)+y0.1))<=(x.1.1.length:Int))then if decide (0<=(wrap .i64 (((x.2.1.2:Nat):Int)+y0.1)))then if decide (0<=(wrap .i64 (((x.2.1.2:Nat):Int)+y0.1)))then if decide ((wrap .i64 (((x.2.1.2:Nat):Int)+y0.1))<=(x.2.1.1.length:Int))then if decide (0<=(wrap .i64 (((x.2.1.2:Nat):Int)+y0.1)))then(S.a2j (seen x.1.1 0 ((Int.toNat (wrap .i64 (((x.2.1.2:Nat):Int)+y0.1))) - 0),seen x.2.1.1 0 ((Int.toNat (wrap .i64 (((x.2.1.2:Nat):Int)+y0.1))) - 0),())).bind fun y1=>some (y1.1,())else none else none else none else none else none else none else some (false,())
def S.a6o (x:(((List ByteArray)×Nat)×(((List ByteArray)×Nat)×Unit))):(Option (Bool×Unit)):=P.a9u 0 x
theorem S.c3u (x r) (h:S.a6o x=some r):∃k,P.a9u k x=some r:=⟨0,h⟩
theorem room_eq (n:Nat):S.a0u ((n:Int),())=some (rb n,()):=by
 unfold S.a0u P.a5e rb;simp only[beq_iff_eq];split
 ·rfl
 ·split<;>rfl
theorem e4h (xs ys:List ByteArray) (h:xs.length<=9223372036854775807):S.a2j (xs,ys,())=some (b2s xs ys,()):=by simp [S.a2j,h]
theorem tos_false (xs:List ByteArray):tos a4a false xs=(xs++List.replicate (rb xs.length).toNat a4a,xs.length):=by simp [tos]
theorem c8v (xs:List ByteArray) (h:xs.length<=1000000):S.a6o (((tos a4a false xs).1,(tos a4a false xs).2),((tos a4a false xs).1,(tos a4a false xs).2),())=some (true,()):=by
 rw[tos_false];have hr:=rb_le xs.length;unfold S.a6o P.a9u;dsimp only;rw[room_eq,Option.bind_some,wr (by omega) (by omega)];have hl:((xs++List.replicate (rb xs.length).toNat a4a).length:Int)=(xs.length:Int)+rb xs.length:=by
  rw[List.length_append,List.length_replicate];omega
 have e1:(0:Int)<=(xs.length:Int)+rb xs.length:=by omega
 have e2:(xs.length:Int)+rb xs.length<=(xs.length:Int)+rb xs.length:=by omega
 simp only[hl,e1,e2,decide_true,if_true,beq_self_eq_true];rw[e4h _ _ (by simp [seen];omega),c8a,Option.bind_some]
abbrev P.a9v (x1:Int×List (List ByteArray)×List (List ByteArray)×Unit) (g2:Int×List (List ByteArray)×List (List ByteArray)×Unit->Option (Bool×Unit)):Option (Bool×Unit):=
 if decide (x1.1<(x1.2.1.length:Int))then if decide (0<=x1.1)then if decide (x1.1<(x1.2.1.length:Int))then if decide (0<=x1.1)then if decide (x1.1<(x1.2.2.1.length:Int))then(S.a2j (x1.2.1.getD x1.1.toNat [],x1.2.2.1.getD x1.1.toNat [],())).bind fun y3=>if !y3.1 then some (false,())else g2 (wrap .i64 (x1.1+1),x1.2.1,x1.2.2.1,())else none else none else none else none else some (true,())
def P.b9o (k:Nat) (x:List (List ByteArray)×List (List ByteArray)×Unit):Option (Bool×Unit):=
 if(x.1.length:Int) != (x.2.1.length:Int)then some (false,())else loopP P.a9v k (0,x.1,x.2.1,())
def eqTT (xs ys:List (List ByteArray)):Bool:=xs.map (fun r=>r.map ByteArray.toList)==ys.map (fun r=>r.map ByteArray.toList)
theorem eqTT_refl (xs:List (List ByteArray)):eqTT xs xs=true:=by simp [eqTT]
theorem eqTT_len {xs ys:List (List ByteArray)} (h:xs.length≠ys.length):eqTT xs ys=false:=by
 unfold eqTT;rw[beq_eq_false_iff_ne];intro e;have:=congrArg List.length e;simp at this;exact h this
theorem eqTT_drop {xs ys:List (List ByteArray)} {i:Nat} (hx:i<xs.length) (hy:i<ys.length):eqTT (xs.drop i) (ys.drop i)=(b2s xs[i] ys[i]&&eqTT (xs.drop (i+1)) (ys.drop (i+1))):=by
 rw[List.drop_eq_getElem_cons hx,List.drop_eq_getElem_cons hy];rfl
open Classical in
def S.b2j (x:((List (List ByteArray))×((List (List ByteArray))×Unit))):(Option (Bool×Unit)):=if x.1.length<=9223372036854775807/\∀r∈x.1,r.length<=9223372036854775807 then some (eqTT x.1 x.2.1,())else none
theorem S.d1h (x r) (h:S.b2j x=some r):∃k,P.b9o k x=some r:=by
 obtain⟨xs,ys,u⟩:=x;unfold S.b2j at h;dsimp only at h;split at h
 case isFalse=>cases h
 rename_i hc;obtain⟨hc,hr⟩:=hc;cases h;refine⟨xs.length+1,?_⟩;unfold P.b9o;dsimp only
 by_cases hl:xs.length=ys.length
 ·have e0:((xs.length:Int) != (ys.length:Int))=false:=by simp [hl]
  rw[if_neg (by rw[e0];simp)];have:=a0f (b:=P.a9v) (n:=xs.length) (st:=fun i=>((i:Int),xs,ys,())) (F:=fun i=>some (eqTT (xs.drop i) (ys.drop i),())) (fun i g hi hg=>by
   have hy:i<ys.length:=by omega
   unfold P.a9v;dsimp only at hg ⊢;have e1:(i:Int)<(xs.length:Int):=by omega
   have e1':(i:Int)<(ys.length:Int):=by omega
   have e2:(0:Int)<=(i:Int):=by omega
   have es:S.a2j (xs[i],ys[i],())=some (b2s xs[i] ys[i],()):=by simp [S.a2j,hr xs[i] (List.getElem_mem hi)]
   simp only[e1,e1',e2,decide_true,if_true];rw[a0o xs i _ hi,a0o ys i _ hy,wr (x:=(i:Int)+1) (by omega) (by omega),eqTT_drop hi hy,es,Option.bind_some];cases hq:b2s xs[i] ys[i]
   ·simp
   ·simp only[Bool.not_true,Bool.false_eq_true,if_false,Bool.true_and];exact hg) (fun g=>by
   unfold P.a9v;have e1:¬((xs.length:Int)<(xs.length:Int)):=by omega
   simp only[e1,decide_false,Bool.false_eq_true,if_false];rw[List.drop_length,hl,List.drop_length];rfl) (Nat.lt_succ_self _)
  simpa using this
 ·rw[if_pos (by simp;omega),eqTT_len hl]
abbrev l_intactStringSS.A:=Int×(List (List ByteArray×Nat)×Nat)×(List (List ByteArray×Nat)×Nat)×Int×Unit
abbrev P.a5p (x2:l_intactStringSS.A) (g3:l_intactStringSS.A->Option (Bool×Unit)):Option (Bool×Unit):=
 (fun(a d:Int) (b c:(List (List ByteArray×Nat)×Nat))=>if decide (a<((b.2:Nat):Int))then if decide (0<=a)then if decide (a<((c.2:Nat):Int))then if decide (0<=a)then if decide (a<((b.2:Nat):Int))then(S.a6o (((c.1.getD a.toNat (([]:List ByteArray),0)).1,(c.1.getD a.toNat (([]:List ByteArray),0)).2),((b.1.getD a.toNat (([]:List ByteArray),0)).1,(b.1.getD a.toNat (([]:List ByteArray),0)).2),())).bind fun y4=>if !y4.1 then some (false,())else g3 (wrap .i64 (a+1),(b.1,b.2),(c.1,c.2),d,())else none else none else none else none else if decide (0<=d)then if decide (d<=(c.1.length:Int))then if decide (0<=((b.2:Nat):Int))then if decide (((b.2:Nat):Int)<=d)then if decide (0<=d)then if decide (d<=(b.1.length:Int))then if decide (0<=((b.2:Nat):Int))then if decide (((b.2:Nat):Int)<=d)then(S.b2j (List.map (fun(y5:List ByteArray×Nat)=>List.map (fun(y6:ByteArray)=>y6) (List.take y5.2 y5.1)) (seen c.1 (Int.toNat ((b.2:Nat):Int)) (d.toNat - (Int.toNat ((b.2:Nat):Int)))),List.map (fun(y7:List ByteArray×Nat)=>List.map (fun(y8:ByteArray)=>y8) (List.take y7.2 y7.1)) (seen b.1 (Int.toNat ((b.2:Nat):Int)) (d.toNat - (Int.toNat ((b.2:Nat):Int)))),())).bind fun y9=>some (y9.1,())else none else none else none else none else none else none else none else none) x2.1 x2.2.2.2.1 x2.2.1 x2.2.2.1
def P.b2r (k:Nat) (x:(List (List ByteArray×Nat)×Nat)×(List (List ByteArray×Nat)×Nat)×Unit):Option (Bool×Unit):=
 (S.a0u (((x.2.1.2:Nat):Int),())).bind fun y0=>if((x.1.2:Nat):Int) != ((x.2.1.2:Nat):Int)then some (false,())else loopP P.a5p k (0,(x.2.1.1,x.2.1.2),(x.1.1,x.1.2),wrap .i64 (((x.2.1.2:Nat):Int)+y0.1),())
open Classical in
def S.a4b (x:(((List ((List ByteArray)×Nat))×Nat)×(((List ((List ByteArray)×Nat))×Nat)×Unit))):(Option (Bool×Unit)):=if ∃xs,okRS xs/\x=(d0h false xs,d0h false xs,())then some (true,())else none
theorem d7k (xs:List (List ByteArray)):d0h false xs=(xs.map (tos a4a false)++List.replicate (rb xs.length).toNat b5v,xs.length):=by simp [d0h]
theorem S.c2j (x r) (h:S.a4b x=some r):∃k,P.b2r k x=some r:=by
 unfold S.a4b at h;split at h
 case isFalse=>cases h
 rename_i hc;cases h;obtain⟨xs,⟨hl,hr⟩,rfl⟩:=hc;refine⟨xs.length+1,?_⟩;have hb:=rb_le xs.length;rw[d7k];unfold P.b2r;dsimp only;rw[room_eq,Option.bind_some,wr (by omega) (by omega)];rw[if_neg (by simp)];generalize hA:xs.map (tos a4a false)++List.replicate (rb xs.length).toNat b5v=A;have hAl:(A.length:Int)=(xs.length:Int)+rb xs.length:=by
  rw[<-hA,List.length_append,List.length_map,List.length_replicate];omega
 have hget:∀i (hi:i<xs.length),A.getD i ([],0)=tos a4a false xs[i]:=by
  intro i hi;rw[<-hA,List.getD_eq_getElem?_getD,List.getElem?_append_left (by simpa using hi)];simp [hi]
 have:=a0f (k:=xs.length+1) (b:=P.a5p) (n:=xs.length) (st:=fun i=>((i:Int),(A,xs.length),(A,xs.length),(xs.length:Int)+rb xs.length,())) (F:=fun i=>some (true,())) (fun i g hi hg=>by
  unfold P.a5p;dsimp only at hg ⊢;have e1:(i:Int)<(xs.length:Int):=by omega
  have e2:(0:Int)<=(i:Int):=by omega
  simp only[e1,e2,decide_true,if_true,Int.toNat_natCast,hget i hi];rw[c8v xs[i] (hr _ (List.getElem_mem hi)),wr (x:=(i:Int)+1) (by omega) (by omega),Option.bind_some];simp only[Bool.not_true,Bool.false_eq_true,if_false];exact hg) (fun g=>by
  unfold P.a5p;dsimp only;have e1:¬((xs.length:Int)<(xs.length:Int)):=by omega
  have e2:(0:Int)<=(xs.length:Int)+rb xs.length:=by omega
  have e3:(xs.length:Int)+rb xs.length<=(xs.length:Int)+rb xs.length:=by omega
  have e4:(0:Int)<=(xs.length:Int):=by omega
  have e5:(xs.length:Int)<=(xs.length:Int)+rb xs.length:=by omega
  simp only[e1,hAl,e2,e3,e4,e5,decide_true,decide_false,if_true,Bool.false_eq_true,if_false];have hs:seen A (Int.toNat (xs.length:Int)) (Int.toNat ((xs.length:Int)+rb xs.length) - Int.toNat (xs.length:Int))=List.replicate (rb xs.length).toNat b5v:=by
   unfold seen;rw[<-hA];have:Int.toNat (xs.length:Int)=(xs.map (tos a4a false)).length:=by simp
   rw[this,List.drop_left];apply List.take_of_length_le;simp;omega
  rw[hs];unfold S.b2j;rw[if_pos,eqTT_refl]
  ·rfl
  ·refine⟨by simp;omega,fun r hr=> ?_⟩;simp only[List.map_replicate,List.mem_replicate]at hr;rw[hr.2];simp [b5v]) (by omega)
 exact this
def P.b3h (k:Nat) (x:(List (List ByteArray×Nat)×Nat)×(List (List ByteArray×Nat)×Nat)×Unit):Option (Bool×Unit):=
 (S.a4b ((x.1.1,x.1.2),(x.2.1.1,x.2.1.2),())).bind fun y0=>if !y0.1 then some (false,())else some (true,())
def S.a9w (x:(((List ((List ByteArray)×Nat))×Nat)×(((List ((List ByteArray)×Nat))×Nat)×Unit))):(Option (Bool×Unit)):=P.b3h 0 x
theorem S.c8w (x r) (h:S.a9w x=some r):∃k,P.b3h k x=some r:=⟨0,h⟩
abbrev l_markStringSS.A:=Option (Int×List (List ByteArray×Nat)×Unit)
abbrev P.a7d (x2:Int×List (List ByteArray×Nat)×Int×Unit) (g3:Int×List (List ByteArray×Nat)×Int×Unit->l_markStringSS.A):l_markStringSS.A:=
 (fun(a c:Int) (b:List (List ByteArray×Nat))=>if decide (a<(List.length (hd0 b):Int))then if decide (0<=a)then if decide (a<(List.length (hd0 b):Int))then(S.a3k (seen (List.getD (in0 b) (List.getD (hd0 b) (0+a.toNat) (0,0)).1 []) 0 (List.getD (hd0 b) (0+a.toNat) (0,0)).2,c,())).bind fun y4=>if dup (List.map (fun(y5:Nat×Nat)=>y5.1) (hd0 b))then none else g3 (wrap .i64 (a+1),nrm (hd0 b) (List.set (in0 b) (List.getD (hd0 b) (0+a.toNat) (0,0)).1 (splice (List.getD (in0 b) (List.getD (hd0 b) (0+a.toNat) (0,0)).1 []) y4.2.1 0)),y4.1,())else none else none else if dup (List.map (fun(y6:Nat×Nat)=>y6.1) (hd0 b))then none else some (c,nrm (hd0 b) (in0 b),())) x2.1 x2.2.2.1 x2.2.1
def P.b5z (k:Nat) (x:List (List ByteArray×Nat)×Int×Unit):l_markStringSS.A:=
 if dup (List.map (fun(y0:Nat×Nat)=>y0.1) (hd0 x.1))then none else loopP P.a7d k (0,nrm (hd0 x.1) (in0 x.1),x.2.1,())
def b9p:List (List ByteArray×Nat)->Nat
 | []=>0
 |r::m=>(seen r.1 0 r.2).length+b9p m
def mk2 (q:Int):List (List ByteArray×Nat)->List (List ByteArray×Nat)
 | []=>[]
 |r::m=>(splice r.1 (b6m q (seen r.1 0 r.2).length) 0,r.2)::mk2 (q+((seen r.1 0 r.2).length:Int)) m
theorem mk2_len (q:Int) (m:List (List ByteArray×Nat)):(mk2 q m).length=m.length:=by
 induction m generalizing q with
 |nil=>rfl
 |cons r m ih=>simp [mk2,ih]
theorem d1i (a b:List (List ByteArray×Nat)):b9p (a++b)=b9p a+b9p b:=by
 induction a with
 |nil=>simp [b9p]
 |cons r a ih=>rw[List.cons_append,b9p,b9p,ih];omega
theorem mk2_snoc (q:Int) (a:List (List ByteArray×Nat)) (r:List ByteArray×Nat):mk2 q (a++[r])=mk2 q a++[(splice r.1 (b6m (q+(b9p a:Int)) (seen r.1 0 r.2).length) 0,r.2)]:=by
 induction a generalizing q with
 |nil=>simp [mk2,b9p]
 |cons b a ih=>
  rw[List.cons_append,mk2,mk2,ih,b9p,List.cons_append,show q+((seen b.1 0 b.2).length:Int)+(b9p a:Int)=q+(((seen b.1 0 b.2).length+b9p a:Nat):Int) by omega]
def S.a7u (x:((List ((List ByteArray)×Nat))×(Int×Unit))):(Option (Int×((List ((List ByteArray)×Nat))×Unit))):=if 0<=x.2.1/\x.2.1<=1000000/\b9p x.1<=10000000/\x.1.length<=10000000 then some (x.2.1+(b9p x.1:Int),(mk2 x.2.1 x.1,()))else none
theorem S.c5x (x r) (h:S.a7u x=some r):∃k,P.b5z k x=some r:=by
 obtain⟨m,q,u⟩:=x;unfold S.a7u at h;dsimp only at h;split at h
 case isFalse=>cases h
 rename_i hc;obtain⟨h0,h1,h2,h3⟩:=hc;cases h;refine⟨m.length+1,?_⟩;unfold P.b5z;dsimp only;have key:=a0f (k:=m.length+1) (b:=P.a7d) (n:=m.length) (st:=fun i=>((i:Int),(mk2 q (m.take i)++m.drop i,(q+(b9p (m.take i):Int),())))) (F:=fun i=>some (q+(b9p m:Int),(mk2 q m,()))) (fun i g hi hg=>by
  unfold P.a7d;dsimp only at hg ⊢;have hl:(mk2 q (m.take i)).length=i:=by rw[mk2_len,List.length_take];omega
  have hlen:(mk2 q (m.take i)++m.drop i).length=m.length:=by rw[List.length_append,hl,List.length_drop];omega
  have hget:(mk2 q (m.take i)++m.drop i)[i]'(by rw[hlen];exact hi)=m[i]:=by
   rw[List.getElem_append_right (by omega)];simp [hl]
  have e1:(i:Int)<(m.length:Int):=by omega
  have e2:(0:Int)<=(i:Int):=by omega
  have et:m=m.take i++m[i]::m.drop (i+1):=by rw[<-List.drop_eq_getElem_cons hi,List.take_append_drop]
  have en:b9p (m.take i)+((seen m[i].1 0 m[i].2).length+b9p (m.drop (i+1)))=b9p m:=by
   conv=>rhs;rw[et,d1i,b9p]
  have em:S.a3k (seen m[i].1 0 m[i].2,(q+(b9p (m.take i):Int),()))=some (q+(b9p (m.take i):Int)+((seen m[i].1 0 m[i].2).length:Int),(b6m (q+(b9p (m.take i):Int)) (seen m[i].1 0 m[i].2).length,())):=by
   unfold S.a3k;exact if_pos ⟨by show 0<=q+(b9p (m.take i):Int);omega,by show q+(b9p (m.take i):Int)<=100000000;omega,by show(seen m[i].1 0 m[i].2).length<=10000000;omega⟩
  simp only[a0t,hlen,e1,e2,decide_true,if_true,Nat.zero_add,Int.toNat_natCast];rw[hd0_at _ (by rw[hlen];exact hi)];dsimp only;rw[in0_at _ (by rw[hlen];exact hi),hget,em,Option.bind_some];simp only[a1d,Bool.false_eq_true,if_false];rw[nrm_write _ (by rw[hlen];exact hi),hget,wr (by omega) (by omega)];have e5:(mk2 q (m.take i)++m.drop i).set i (splice m[i].1 (b6m (q+(b9p (m.take i):Int)) (seen m[i].1 0 m[i].2).length) 0,m[i].2)=mk2 q (m.take (i+1))++m.drop (i+1):=by
   rw[List.set_append_right _ _ (by omega),hl,Nat.sub_self,List.drop_eq_getElem_cons hi,List.set_cons_zero,<-List.take_append_getElem hi,mk2_snoc,List.append_assoc];rfl
  have e6:q+(b9p (m.take i):Int)+((seen m[i].1 0 m[i].2).length:Int)=q+(b9p (m.take (i+1)):Int):=by
   rw[<-List.take_append_getElem hi,d1i];simp only[b9p];omega
  rw[e5,e6,<-hg];rfl) (fun g=>by
  unfold P.a7d;dsimp only;rw[List.take_length,List.drop_length,List.append_nil];simp only[a0t,mk2_len,a1d,a1t,Bool.false_eq_true,if_false];rw[if_neg (by simp)]) (by omega)
 simp only[a1d,a1t,Bool.false_eq_true,if_false];refine Eq.trans ?_ key;simp [b9p,mk2]
def P.b7o (k:Nat) (x:List (List ByteArray×Nat)×Int×Unit):Option (Int×List (List ByteArray×Nat)×Unit):=
 if dup (List.map (fun(y0:Nat×Nat)=>y0.1) (hd0 x.1))then none else(S.a7u (nrm (hd0 x.1) (in0 x.1),x.2.1,())).bind fun y1=>if dup (List.map (fun(y2:Nat×Nat)=>y2.1) (hd0 y1.2.1))then none else some (y1.1,nrm (hd0 y1.2.1) (in0 y1.2.1),())
def S.b4s (x:((List ((List ByteArray)×Nat))×(Int×Unit))):(Option (Int×((List ((List ByteArray)×Nat))×Unit))):=P.b7o 0 x
theorem S.d5g (x r) (h:S.b4s x=some r):∃k,P.b7o k x=some r:=⟨0,h⟩
abbrev l_toStringSo.A:=Int×List ByteArray×List ByteArray×Unit
abbrev l_toStringSo.B:=Option ((List ByteArray×Nat)×Unit)
abbrev P.a6p (x5:l_toStringSo.A) (g6:l_toStringSo.A->l_toStringSo.B):l_toStringSo.B:=
 if decide (x5.1<(x5.2.1.length:Int))then if decide (0<=x5.1)then if decide (x5.1<(x5.2.1.length:Int))then g6 (wrap .i64 (x5.1+1),x5.2.1.set (0+x5.1.toNat) (bs [126,115,112,97,114,101,126]),x5.2.2.1,())else none else none else if decide (0<=(x5.2.2.1.length:Int))then if decide (((x5.2.2.1.length:Int)+0)<=(x5.2.1.length:Int))then if decide (0<=(x5.2.2.1.length:Int))then some ((x5.2.1,(Int.toNat (x5.2.2.1.length:Int)) - 0),())else none else none else none
abbrev P.a3s (k:Nat) (x2:l_toStringSo.A) (g3:l_toStringSo.A->l_toStringSo.B):l_toStringSo.B:=
 if decide (x2.1<(x2.2.1.length:Int))then if decide (0<=x2.1)then if decide (x2.1<(x2.2.1.length:Int))then if decide (0<=x2.1)then if decide (x2.1<(x2.2.2.1.length:Int))then g3 (wrap .i64 (x2.1+1),x2.2.1,x2.2.2.1.set (0+x2.1.toNat) (x2.2.1.getD x2.1.toNat (bs [])),())else none else none else none else none else loopP P.a6p k ((x2.2.1.length:Int),x2.2.2.1,x2.2.1,())
def P.b9q (k:Nat) (x:List ByteArray×Bool×Unit):l_toStringSo.B:=
 if x.2.1 then if(x.1.length:Int)==0 then some ((([]:List ByteArray),0),())else(S.a0u ((x.1.length:Int),())).bind fun y0=>if decide (0<=(wrap .i64 ((x.1.length:Int)+y0.1)))then if decide ((wrap .i64 ((x.1.length:Int)+y0.1))<=(wrap .i64 ((x.1.length:Int)+y0.1)))then if decide (((wrap .i64 ((x.1.length:Int)+y0.1))*16)<=281474976710656)then loopP (P.a3s k) k (0,x.1,List.replicate (Int.toNat (wrap .i64 ((x.1.length:Int)+y0.1))) (bs []),())else none else none else none else(S.a0u ((x.1.length:Int),())).bind fun y7=>if decide (0<=(wrap .i64 ((x.1.length:Int)+y7.1)))then if decide ((wrap .i64 ((x.1.length:Int)+y7.1))<=(wrap .i64 ((x.1.length:Int)+y7.1)))then if decide (((wrap .i64 ((x.1.length:Int)+y7.1))*16)<=281474976710656)then loopP (P.a3s k) k (0,x.1,List.replicate (Int.toNat (wrap .i64 ((x.1.length:Int)+y7.1))) (bs []),())else none else none else none
def S.a6q (x:((List ByteArray)×(Bool×Unit))):(Option (((List ByteArray)×Nat)×Unit)):=S.c3f x
theorem d9d (xs:List ByteArray) (m n k:Nat) (h:n=xs.length) (hl:n<=1000000) (hm:m<=n+1) (hk:m<k):
  loopP P.a6p k ((n:Int),xs++List.replicate m (bs []),xs,())=some ((xs++List.replicate m a4a,n),()):=by
 have key:=a0f (b:=P.a6p) (n:=m) (st:=fun i=>(((n+i:Nat):Int),(xs++List.replicate i a4a)++List.replicate (m - i) (bs []),xs,())) (F:=fun i=>some ((xs++List.replicate m a4a,n),())) (fun i g hi hg=>by
  unfold P.a6p;dsimp only at hg ⊢;have hlen:((xs++List.replicate i a4a)++List.replicate (m - i) (bs [])).length=n+m:=by simp;omega
  simp only[hlen];have e1:((n+i:Nat):Int)<((n+m:Nat):Int):=by omega
  have e2:(0:Int)<=((n+i:Nat):Int):=by omega
  simp only[e1,e2,decide_true,if_true];rw[wr (by omega) (by omega),<-hg];congr 1;have e3:m - i=(m - (i+1))+1:=by omega
  have e4:(0+((n+i:Nat):Int).toNat)=(xs++List.replicate i a4a).length:=by rw[List.length_append,List.length_replicate];omega
  rw[e3,e4,c0w];simp only[List.replicate_succ',<-List.append_assoc,a4a];rfl) (fun g=>by
  unfold P.a6p;dsimp only;have hlen:((xs++List.replicate m a4a)++List.replicate (m - m) (bs [])).length=n+m:=by simp;omega
  simp only[hlen];have e1:¬((n+m:Nat):Int)<((n+m:Nat):Int):=by omega
  have e2:(0:Int)<=(xs.length:Int):=by omega
  have e3:(xs.length:Int)+0<=((n+m:Nat):Int):=by omega
  simp only[e1,e2,e3,decide_true,decide_false,if_true,Bool.false_eq_true,if_false];simp [h]) hk
 simpa using key
theorem d9e (k0:Nat) (xs:List ByteArray) (m k:Nat) (hl:xs.length<=1000000) (hm:m<=xs.length+1) (hk0:m<k0) (hk:xs.length<k):
  loopP (P.a3s k0) k ((0:Int),xs,List.replicate (xs.length+m) (bs []),())=some ((xs++List.replicate m a4a,xs.length),()):=by
 have key:=a0f (b:=P.a3s k0) (n:=xs.length) (st:=fun i=>((i:Int),xs,xs.take i++List.replicate (xs.length - i+m) (bs []),())) (F:=fun i=>some ((xs++List.replicate m a4a,xs.length),())) (fun i g hi hg=>by
  unfold P.a3s;dsimp only at hg ⊢;have hlen:(xs.take i++List.replicate (xs.length - i+m) (bs [])).length=xs.length+m:=by simp;omega
  simp only[hlen];have e1:(i:Int)<(xs.length:Int):=by omega
  have e1':(i:Int)<((xs.length+m:Nat):Int):=by omega
  have e2:(0:Int)<=(i:Int):=by omega
  simp only[e1,e1',e2,decide_true,if_true];rw[wr (by omega) (by omega),a0o xs i _ hi,<-hg];congr 1;have e3:xs.length - i+m=(xs.length - (i+1)+m)+1:=by omega
  have e4:(0+(i:Int).toNat)=(xs.take i).length:=by simp;omega
  rw[e3,e4,c0w];simp) (fun g=>by
  unfold P.a3s;dsimp only;have e1:¬(xs.length:Int)<(xs.length:Int):=by omega
  simp only[e1,decide_false,Bool.false_eq_true,if_false];have:=d9d xs m xs.length k0 rfl hl hm hk0;simpa using this) hk
 simpa using key
theorem S.d1j (x r) (h:S.a6q x=some r):∃k,P.b9q k x=some r:=by
 obtain⟨xs,bare,u⟩:=x;unfold S.a6q S.c3f at h;dsimp only at h;split at h
 case isFalse=>cases h
 rename_i hl;cases h;refine⟨xs.length+2,?_⟩;have hr:=rb_le xs.length;have go:(Option.bind (S.a0u (((List.length xs):Int),())) (fun(y0:(Int×Unit))=>(if((decide ((0:Int)<=(IntKind.wrap .i64 (((List.length xs):Int)+y0.1))))=true)then(if((decide ((IntKind.wrap .i64 (((List.length xs):Int)+y0.1))<=(IntKind.wrap .i64 (((List.length xs):Int)+y0.1))))=true)then(if((decide (((IntKind.wrap .i64 (((List.length xs):Int)+y0.1))*(16:Int))<=(281474976710656:Int)))=true)then(loopP (X:=(Int×((List ByteArray)×((List ByteArray)×Unit)))) (R:=(((List ByteArray)×Nat)×Unit)) (P.a3s (xs.length+2)) (xs.length+2) ((0:Int),(xs,((List.replicate (Int.toNat (IntKind.wrap .i64 (((List.length xs):Int)+y0.1))) (bs [])),()))))
 else none)
 else none)
 else none)))=some ((xs++List.replicate (rb xs.length).toNat a4a,xs.length),()):=by
  have e0:S.a0u ((xs.length:Int),())=some (rb xs.length,()):=by
   unfold S.a0u P.a5e rb;simp only[beq_iff_eq];split
   ·rfl
   ·split<;>rfl
  rw[e0,Option.bind_some];dsimp only;rw[wr (by omega) (by omega)];have e1:(0:Int)<=(xs.length:Int)+rb xs.length:=by omega
  have e2:(xs.length:Int)+rb xs.length<=(xs.length:Int)+rb xs.length:=by omega
  have e3:((xs.length:Int)+rb xs.length)*16<=281474976710656:=by omega
  simp only[e1,e2,e3,decide_true,if_true];have e4:((xs.length:Int)+rb xs.length).toNat=xs.length+(rb xs.length).toNat:=by omega
  rw[e4];exact d9e _ xs _ _ hl (by omega) (by omega) (by omega)
 unfold P.b9q tos;dsimp only;cases bare with
 |true=>
  simp only[if_true]
  by_cases hx:xs=[]
  ·subst hx;rfl
  ·have hx':¬((((xs.length:Nat):Int)==0)=true):=by
    simp [hx]
   rw[if_neg hx',if_neg (by simp [hx])];exact go
 |false=>
  simp only[Bool.false_eq_true,if_false,false_and];exact go
abbrev l_toStringSSo.A:=Int×List (List ByteArray)×List (List ByteArray×Nat)×Bool×Unit
abbrev l_toStringSSo.B:=Option ((List (List ByteArray×Nat)×Nat)×Unit)
abbrev P.a4c (x9:Int×List (List ByteArray×Nat)×List (List ByteArray)×Unit) (g10:Int×List (List ByteArray×Nat)×List (List ByteArray)×Unit->l_toStringSSo.B):l_toStringSSo.B:=
 if decide (x9.1<(List.length (hd0 x9.2.1):Int))then if decide (0<=x9.1)then if decide (x9.1<(List.length (hd0 x9.2.1):Int))then if dup (List.map (fun(y11:Nat×Nat)=>y11.1) (List.set (hd0 x9.2.1) (0+x9.1.toNat) (List.length (in0 x9.2.1),1)))then none else g10 (wrap .i64 (x9.1+1),nrm (List.set (hd0 x9.2.1) (0+x9.1.toNat) (List.length (in0 x9.2.1),1)) ((in0 x9.2.1)++[[(bs [126,115,112,97,114,101,126])]]),x9.2.2.1,())else none else none else if decide (0<=(x9.2.2.1.length:Int))then if decide (((x9.2.2.1.length:Int)+0)<=(List.length (hd0 x9.2.1):Int))then if decide (0<=(x9.2.2.1.length:Int))then if dup (List.map (fun(y12:Nat×Nat)=>y12.1) (hd0 x9.2.1))then none else some ((nrm (hd0 x9.2.1) (in0 x9.2.1),(Int.toNat (x9.2.2.1.length:Int)) - 0),())else none else none else none
abbrev P.a4d (k:Nat) (x3:l_toStringSSo.A) (g4:l_toStringSSo.A->l_toStringSSo.B):l_toStringSSo.B:=
 (fun(a:Int) (b:List (List ByteArray)) (c:List (List ByteArray×Nat)) (d:Bool)=>if decide (a<(b.length:Int))then if decide (0<=a)then if decide (a<(b.length:Int))then(S.a6q (b.getD a.toNat [],d,())).bind fun y5=>if decide (0<=a)then if decide (a<(List.length (hd0 c):Int))then if dup (List.map (fun(y6:Nat×Nat)=>y6.1) (List.set (hd0 c) (0+a.toNat) (List.length (in0 c),y5.1.2)))then none else g4 (wrap .i64 (a+1),b,nrm (List.set (hd0 c) (0+a.toNat) (List.length (in0 c),y5.1.2)) ((in0 c)++[y5.1.1]),d,())else none else none else none else none else if dup (List.map (fun(y7:Nat×Nat)=>y7.1) (hd0 c))then none else loopP P.a4c k ((b.length:Int),nrm (hd0 c) (in0 c),b,())) x3.1 x3.2.1 x3.2.2.1 x3.2.2.2.1
abbrev P.b6n (k:Nat) (x16:l_toStringSSo.A) (g17:l_toStringSSo.A->l_toStringSSo.B):l_toStringSSo.B:=
 (fun(a:Int) (b:List (List ByteArray)) (c:List (List ByteArray×Nat)) (d:Bool)=>if decide (a<(b.length:Int))then if decide (0<=a)then if decide (a<(b.length:Int))then(S.a6q (b.getD a.toNat [],d,())).bind fun y18=>if decide (0<=a)then if decide (a<(List.length (hd0 c):Int))then if dup (List.map (fun(y19:Nat×Nat)=>y19.1) (List.set (hd0 c) (0+a.toNat) (List.length (in0 c),y18.1.2)))then none else g17 (wrap .i64 (a+1),b,nrm (List.set (hd0 c) (0+a.toNat) (List.length (in0 c),y18.1.2)) ((in0 c)++[y18.1.1]),d,())else none else none else none else none else if dup (List.map (fun(y20:Nat×Nat)=>y20.1) (hd0 c))then none else loopP P.a4c k ((b.length:Int),nrm (hd0 c) (in0 c),b,())) x16.1 x16.2.1 x16.2.2.1 x16.2.2.2.1
def P.b7p (k:Nat) (x:List (List ByteArray)×Bool×Unit):l_toStringSSo.B:=
 if x.2.1 then if(x.1.length:Int)==0 then some ((([]:List (List ByteArray×Nat)),0),())else(S.a0u ((x.1.length:Int),())).bind fun y0=>if decide (0<=(wrap .i64 ((x.1.length:Int)+y0.1)))then if decide ((wrap .i64 ((x.1.length:Int)+y0.1))<=(wrap .i64 ((x.1.length:Int)+y0.1)))then if decide (((wrap .i64 ((x.1.length:Int)+y0.1))*24)<=281474976710656)then if dup (List.map (fun(y1:Nat×Nat)=>y1.1) (hd0 (List.replicate (Int.toNat (wrap .i64 ((x.1.length:Int)+y0.1))) (([]:List ByteArray),0))))then none else loopP (P.a4d k) k (0,x.1,nrm (hd0 (List.replicate (Int.toNat (wrap .i64 ((x.1.length:Int)+y0.1))) (([]:List ByteArray),0))) (in0 (List.replicate (Int.toNat (wrap .i64 ((x.1.length:Int)+y0.1))) (([]:List ByteArray),0))),x.2.1,())else none else none else none else(S.a0u ((x.1.length:Int),())).bind fun y13=>if decide (0<=(wrap .i64 ((x.1.length:Int)+y13.1)))then if decide ((wrap .i64 ((x.1.length:Int)+y13.1))<=(wrap .i64 ((x.1.length:Int)+y13.1)))then if decide (((wrap .i64 ((x.1.length:Int)+y13.1))*24)<=281474976710656)then if dup (List.map (fun(y14:Nat×Nat)=>y14.1) (hd0 (List.replicate (Int.toNat (wrap .i64 ((x.1.length:Int)+y13.1))) (([]:List ByteArray),0))))then none else loopP (P.b6n k) k (0,x.1,nrm (hd0 (List.replicate (Int.toNat (wrap .i64 ((x.1.length:Int)+y13.1))) (([]:List ByteArray),0))) (in0 (List.replicate (Int.toNat (wrap .i64 ((x.1.length:Int)+y13.1))) (([]:List ByteArray),0))),x.2.1,())else none else none else none
def S.a9x (x:((List (List ByteArray))×(Bool×Unit))):(Option (((List ((List ByteArray)×Nat))×Nat)×Unit)):=S.c0p x
theorem d5h (xs:List (List ByteArray)) (ys:List (List ByteArray×Nat)) (m n k:Nat) (h:n=xs.length) (hy:ys.length=n) (hl:n<=1000000) (hm:m<=n+1) (hk:m<k):
  loopP P.a4c k ((n:Int),ys++List.replicate m ([],0),xs,())=some ((ys++List.replicate m b5v,n),()):=by
 have key:=a0f (b:=P.a4c) (n:=m) (st:=fun i=>(((n+i:Nat):Int),(ys++List.replicate i b5v)++List.replicate (m - i) ([],0),xs,())) (F:=fun i=>some ((ys++List.replicate m b5v,n),())) (fun i g hi hg=>by
  unfold P.a4c;dsimp only at hg ⊢;have hlen:((ys++List.replicate i b5v)++List.replicate (m - i) ([],0)).length=n+m:=by simp;omega
  have e1:((n+i:Nat):Int)<((n+m:Nat):Int):=by omega
  have e2:(0:Int)<=((n+i:Nat):Int):=by omega
  simp only[a0t,hlen,d4m,nrm_store,e1,e2,decide_true,if_true,Bool.false_eq_true,if_false];rw[wr (by omega) (by omega),<-hg];congr 1;have e3:m - i=(m - (i+1))+1:=by omega
  have e4:(0+((n+i:Nat):Int).toNat)=(ys++List.replicate i b5v).length:=by rw[List.length_append,List.length_replicate];omega
  rw[e3,e4,c0w];simp only[List.replicate_succ',<-List.append_assoc,b5v,a4a];rfl) (fun g=>by
  unfold P.a4c;dsimp only;have hlen:((ys++List.replicate m b5v)++List.replicate (m - m) ([],0)).length=n+m:=by simp;omega
  have e1:¬((n+m:Nat):Int)<((n+m:Nat):Int):=by omega
  have e2:(0:Int)<=(xs.length:Int):=by omega
  have e3:(xs.length:Int)+0<=((n+m:Nat):Int):=by omega
  simp only[a0t,hlen,a1d,a1t,e1,e2,e3,decide_true,decide_false,if_true,Bool.false_eq_true,if_false];simp [h]) hk
 simpa using key
theorem d5i (k0:Nat) (bare:Bool) (xs:List (List ByteArray)) (m k:Nat) (hl:okRS xs) (hm:m<=xs.length+1) (hk0:m<k0) (hk:xs.length<k):
  loopP (P.a4d k0) k ((0:Int),xs,List.replicate (xs.length+m) ([],0),bare,())=some ((xs.map (tos a4a bare)++List.replicate m b5v,xs.length),()):=by
 obtain⟨hl,hr⟩:=hl;have key:=a0f (b:=P.a4d k0) (n:=xs.length) (st:=fun i=>((i:Int),xs,(xs.take i).map (tos a4a bare)++List.replicate (xs.length - i+m) ([],0),bare,())) (F:=fun i=>some ((xs.map (tos a4a bare)++List.replicate m b5v,xs.length),())) (fun i g hi hg=>by
  unfold P.a4d;dsimp only at hg ⊢;have hlen:((xs.take i).map (tos a4a bare)++List.replicate (xs.length - i+m) ([],0)).length=xs.length+m:=by simp;omega
  have e1:(i:Int)<(xs.length:Int):=by omega
  have e1':(i:Int)<((xs.length+m:Nat):Int):=by omega
  have e2:(0:Int)<=(i:Int):=by omega
  have es:S.a6q (xs[i],bare,())=some (tos a4a bare xs[i],()):=by simp [S.a6q,S.c3f,hr xs[i] (List.getElem_mem hi)]
  simp only[a0t,hlen,e1,e1',e2,decide_true,if_true];rw[wr (by omega) (by omega),a0o xs i _ hi,es,Option.bind_some];simp only[d4m,nrm_store,Bool.false_eq_true,if_false];rw[<-hg];congr 1;have e3:xs.length - i+m=(xs.length - (i+1)+m)+1:=by omega
  have e4:(0+(i:Int).toNat)=((xs.take i).map (tos a4a bare)).length:=by simp;omega
  rw[e3,e4,c0w];have e5:(xs.take (i+1)).map (tos a4a bare)=(xs.take i).map (tos a4a bare)++[tos a4a bare xs[i]]:=by rw[<-List.take_append_getElem hi,List.map_append];rfl
  rw[e5];rfl) (fun g=>by
  unfold P.a4d;dsimp only;have e1:¬(xs.length:Int)<(xs.length:Int):=by omega
  simp only[e1,decide_false,a1d,a1t,Bool.false_eq_true,if_false];have:=d5h xs (xs.map (tos a4a bare)) m xs.length k0 rfl (by simp) hl hm hk0;simpa using this) hk
 simpa using key
theorem S.c8x (x r) (h:S.a9x x=some r):∃k,P.b7p k x=some r:=by
 obtain⟨xs,bare,u⟩:=x;unfold S.a9x S.c0p at h;dsimp only at h;split at h
 case isFalse=>cases h
 rename_i hl;have hl1:=hl.1;cases h;refine⟨xs.length+2,?_⟩;have hr:=rb_le xs.length;have e0:S.a0u ((xs.length:Int),())=some (rb xs.length,()):=by
  unfold S.a0u P.a5e rb;simp only[beq_iff_eq];split
  ·rfl
  ·split<;>rfl
 have e1:(0:Int)<=(xs.length:Int)+rb xs.length:=by omega
 have e3:((xs.length:Int)+rb xs.length)*24<=281474976710656:=by omega
 have e4:((xs.length:Int)+rb xs.length).toNat=xs.length+(rb xs.length).toNat:=by omega
 have hb:P.b6n=P.a4d:=rfl;have key:=fun b=>d5i (xs.length+2) b xs (rb xs.length).toNat (xs.length+2) hl (by omega) (by omega) (by omega)
 unfold P.b7p d0h;dsimp only;rw[e0,hb];simp only[Option.bind_some];rw[wr (by omega) (by omega)];simp only[e1,e3,e4,Int.le_refl,decide_true,if_true,a1d,a1t,key,Bool.false_eq_true,if_false];cases bare with
 |true=>
  simp only[if_true]
  by_cases hx:xs=[]
  ·subst hx;rfl
  ·have hx':¬((((xs.length:Nat):Int)==0)=true):=by
    simp [hx]
   rw[if_neg hx',if_neg (by simp [hx])]
 |false=>
  simp only[Bool.false_eq_true,if_false,false_and]
def P.c0v (k:Nat) (x:List (List ByteArray)×Bool×Unit):Option ((List (List ByteArray×Nat)×Nat)×Unit):=
 (S.a9x (x.1,x.2.1,())).bind fun y0=>if dup (List.map (fun(y1:Nat×Nat)=>y1.1) (hd0 y0.1.1))then none else some ((nrm (hd0 y0.1.1) (in0 y0.1.1),y0.1.2),())
def S.a8y (x:((List (List ByteArray))×(Bool×Unit))):(Option (((List ((List ByteArray)×Nat))×Nat)×Unit)):=P.c0v 0 x
theorem S.d9f (x r) (h:S.a8y x=some r):∃k,P.c0v k x=some r:=⟨0,h⟩
abbrev P.b7q (x1:Int×List Int×Int×Unit) (g2:Int×List Int×Int×Unit->Option (Bool×Unit)):Option (Bool×Unit):=
 if decide (x1.1<(x1.2.1.length:Int))then if decide (0<=x1.1)then if decide (x1.1<(x1.2.1.length:Int))then if(x1.2.1.getD x1.1.toNat 0)==x1.2.2.1 then some (true,())else g2 (wrap .i64 (x1.1+1),x1.2.1,x1.2.2.1,())else none else none else some (false,())
def P.d9g (k:Nat) (x:List Int×Int×Unit):Option (Bool×Unit):=
 loopP P.b7q k (0,x.1,x.2.1,())
def S.a2q (x:((List Int)×(Int×Unit))):(Option (Bool×Unit)):=if x.1.length<=1000000 then some (decide (x.2.1∈x.1),())else none
theorem S.s_l00Has_ok (x r) (h:S.a2q x=some r):∃k,P.d9g k x=some r:=by
 obtain⟨xs,n,u⟩:=x;unfold S.a2q at h;dsimp only at h;split at h
 case isFalse=>cases h
 rename_i hc;cases h;refine⟨xs.length+1,?_⟩;unfold P.d9g;dsimp only;have key:=a0f (k:=xs.length+1) (b:=P.b7q) (n:=xs.length) (st:=fun i=>((i:Int),xs,n,())) (F:=fun i=>some (decide (n∈xs.drop i),())) (fun i g hi hg=>by
  unfold P.b7q;dsimp only at hg ⊢;have e1:(i:Int)<(xs.length:Int):=by omega
  have e2:(0:Int)<=(i:Int):=by omega
  simp only[e1,e2,decide_true,if_true];rw[a0o xs i _ hi,List.drop_eq_getElem_cons hi,wr (by omega) (by omega)]
  by_cases he:xs[i]=n
  ·rw[if_pos (by simp [he]),decide_eq_true (by rw[he];exact List.mem_cons_self ..)]
  ·rw[if_neg (by simp [he])];refine Eq.trans hg ?_;congr 2;rw[decide_eq_decide,List.mem_cons];exact⟨Or.inr,fun h=>h.resolve_left fun e=>he e.symm⟩) (fun g=>by
  unfold P.b7q;dsimp only;rw[if_neg (by simp),List.drop_length];rfl) (by omega)
 rw[List.drop_zero]at key;exact key
abbrev P.b7r (x1:Int×List Int×Unit) (g2:Int×List Int×Unit->Option (List Int×Unit)):Option (List Int×Unit):=
 if decide (x1.1>0)then if decide (((x1.2.1.length+(List.length [Int.tmod x1.1 1000000000]))*8)<=140737488355328)then g2 (wrap .i64 (Int.tdiv x1.1 1000000000),x1.2.1++[Int.tmod x1.1 1000000000],())else none else some (x1.2.1,())
def P.d9h (k:Nat) (x:Int×Unit):Option (List Int×Unit):=
 loopP P.b7r k (x.1,[],())
def S.a7e (x:(Int×Unit)):(Option ((List Int)×Unit)):=if 0<=x.1/\x.1<=9223372036854775807 then some (nd B10 x.1.toNat,())else none
theorem l01Nat_loop (k:Nat):∀(n:Nat) (out:List Int),n<2^k->n<=9223372036854775807->out.length+k<=1000000->loopP (X:=(Int×((List Int)×Unit))) (R:=((List Int)×Unit)) P.b7r (k+1) ((n:Int),(out,()))=some (out++nd B10 n,()):=by
 induction k with
 |zero=>
  intro n out hn _ _;have:n=0:=by omega
  subst this;rw[a0l];unfold P.b7r;rw[if_neg (by simp),a1v a0d,List.append_nil]
 |succ k ih=>
  intro n out hn hm ho;rw[a0l];unfold P.b7r;dsimp only
  by_cases h:n=0
  ·subst h;rw[if_neg (by simp),a1v a0d,List.append_nil]
  ·have e1:(n:Int)>0:=by omega
   have e2:(out.length+(Int.tmod (n:Int) 1000000000::([]:List Int)).length)*8<=140737488355328:=by simp;omega
   rw[if_pos (decide_eq_true e1),if_pos (decide_eq_true e2)];have eT:Int.tdiv (n:Int) 1000000000=((n/1000000000:Nat):Int):=by rw[Int.tdiv_eq_ediv_of_nonneg (by omega)];omega
   have eM:Int.tmod (n:Int) 1000000000=((n%1000000000:Nat):Int):=by rw[Int.tmod_eq_emod_of_nonneg (by omega)];omega
   rw[eT,eM,wr (by omega) (by omega),ih (n/1000000000) _ (by rw[Nat.pow_succ]at hn;omega) (by omega) (by simp;omega),b4y a0d h,List.append_assoc];rfl
theorem S.s_l01Nat_ok (x r) (h:S.a7e x=some r):∃k,P.d9h k x=some r:=by
 obtain⟨n,u⟩:=x;unfold S.a7e at h;dsimp only at h;split at h
 case isFalse=>cases h
 rename_i hc;cases h;refine⟨64,?_⟩;unfold P.d9h;dsimp only;have:=l01Nat_loop 63 n.toNat [] (by
  have:(2:Nat)^63=9223372036854775808:=by decide
  omega) (by omega) (by simp)
 rw[show((n.toNat:Nat):Int)=n by omega]at this;exact this
def P.d9i (k:Nat) (x:Int×Unit):Option (RB×Unit):=
 if decide (x.1<0)then(S.a7e (wrap .i64 (0 - x.1),())).bind fun y0=>some ((true,y0.1,[1]),())else(S.a7e (x.1,())).bind fun y1=>some ((false,y1.1,[1]),())
def S.c3v (x:(Int×Unit)):(Option (RB×Unit)):=if -9223372036854775807<=x.1/\x.1<=9223372036854775807 then some (rp B10 (wholeQ x.1),())else none
theorem S.s_l01Int_ok (x r) (h:S.c3v x=some r):∃k,P.d9i k x=some r:=by
 obtain⟨n,u⟩:=x;unfold S.c3v at h;dsimp only at h;split at h
 case isFalse=>cases h
 rename_i hc;cases h;refine⟨0,?_⟩;unfold P.d9i S.a7e rp wholeQ;dsimp only;rw[nd_one a0d]
 by_cases h0:n<0
 ·rw[if_pos (decide_eq_true h0),wr (by omega) (by omega),if_pos ⟨by omega,by omega⟩,Option.bind_some,decide_eq_true h0,show(0 - n).toNat=n.natAbs by omega]
 ·rw[if_neg (by simpa using h0),if_pos ⟨by omega,by omega⟩,Option.bind_some,decide_eq_false h0,show n.toNat=n.natAbs by omega]
def P.d9j (k:Nat) (x:Unit):Option (RB×Unit):=
 (S.c3v (1,())).bind fun y0=>some ((y0.1.1,y0.1.2.1,y0.1.2.2),())
def S.a7f (x:Unit):(Option (RB×Unit)):=P.d9j 0 x
theorem S.s_l01One_ok (x r) (h:S.a7f x=some r):∃k,P.d9j k x=some r:=⟨0,h⟩
def P.d1k (k:Nat) (x:Unit):Option (RB×Unit):=
 (S.c3v (0,())).bind fun y0=>some ((y0.1.1,y0.1.2.1,y0.1.2.2),())
def S.a4y (x:Unit):(Option (RB×Unit)):=P.d1k 0 x
theorem S.e4i (x r) (h:S.a4y x=some r):∃k,P.d1k k x=some r:=⟨0,h⟩
abbrev P.b7s (x1:Int×List Int×List Int×Unit) (g2:Int×List Int×List Int×Unit->Option (Int×Unit)):Option (Int×Unit):=
 (fun(a:Int) (b c:List Int)=>if decide (a>=0)then if decide (0<=a)then if decide (a<(b.length:Int))then if decide (0<=a)then if decide (a<(c.length:Int))then if(b.getD a.toNat 0) != (c.getD a.toNat 0)then if decide (0<=a)then if decide (a<(b.length:Int))then if decide (0<=a)then if decide (a<(c.length:Int))then if decide ((b.getD a.toNat 0)<(c.getD a.toNat 0))then some ((-1:Int),())else some (1,())else none else none else none else none else g2 (wrap .i64 (a - 1),b,c,())else none else none else none else none else some (0,())) x1.1 x1.2.1 x1.2.2.1
def P.d9k (k:Nat) (x:List Int×List Int×Unit):Option (Int×Unit):=
 if(x.1.length:Int) != (x.2.1.length:Int)then if decide ((x.1.length:Int)<(x.2.1.length:Int))then some ((-1:Int),())else some (1,())else loopP P.b7s k (wrap .i64 ((x.1.length:Int) - 1),x.1,x.2.1,())
def S.a0n (x:((List Int)×((List Int)×Unit))):(Option (Int×Unit)):=if a2o B10 x.1=true/\a2o B10 x.2.1=true/\x.1.length<=1000000000000 then some (b1i (a0c B10 x.1) (a0c B10 x.2.1),())else none
theorem S.s_l01Cmp_ok (x r) (h:S.a0n x=some r):∃k,P.d9k k x=some r:=by
 obtain⟨xs,ys,u⟩:=x;unfold S.a0n at h;dsimp only at h;split at h
 case isFalse=>cases h
 rename_i hc;obtain⟨cx,cy,hl⟩:=hc;cases h;refine⟨xs.length+1,?_⟩;unfold P.d9k;dsimp only
 by_cases hn:xs.length=ys.length
 ·rw[if_neg (by simp [hn]),wr (by omega) (by omega)];have key:=a0f (k:=xs.length+1) (b:=P.b7s) (n:=xs.length) (st:=fun j=>((xs.length:Int) - 1 - (j:Int),xs,ys,())) (F:=fun j=>some (b1i (a0c B10 (xs.take (xs.length - j))) (a0c B10 (ys.take (xs.length - j))),())) (fun j g hj hg=>by
   unfold P.b7s;dsimp only at hg ⊢;have e1:(xs.length:Int) - 1 - (j:Int)>=0:=by omega
   have e3:(0:Int)<=(xs.length:Int) - 1 - (j:Int):=by omega
   have e4:(xs.length:Int) - 1 - (j:Int)<(xs.length:Int):=by omega
   have e4':(xs.length:Int) - 1 - (j:Int)<(ys.length:Int):=by omega
   simp only[e1,e4,e4',decide_true,if_true];have hi:xs.length - (j+1)<xs.length:=by omega
   have hi':xs.length - (j+1)<ys.length:=by omega
   have e5:(xs.length:Int) - 1 - (j:Int)=((xs.length - (j+1):Nat):Int):=by omega
   have e6:xs.length - j=(xs.length - (j+1))+1:=by omega
   rw[e5,a0o xs _ _ hi,a0o ys _ _ hi',e6];generalize xs.length - (j+1)=i at*
   by_cases hq:xs[i]=ys[i]
   ·rw[if_neg (by simp [hq]),wr (by omega) (by omega)];have e7:((i:Nat):Int) - 1=(xs.length:Int) - 1 - ((j+1:Nat):Int):=by omega
    rw[e7,hg,<-List.take_append_getElem hi,<-List.take_append_getElem hi',a1a,a1a,hq];have hlx:(xs.take i).length=i:=by simp;omega
    have hly:(ys.take i).length=i:=by simp;omega
    rw[hlx,hly];unfold b1i;simp only[Nat.add_lt_add_iff_right]
   ·rw[if_pos (by simp [hq])]
    by_cases hlt:xs[i]<ys[i]
    ·have:=d0b xs ys i hi hi' (a1s cx) (a1s cy) hlt;rw[if_pos (decide_eq_true hlt),b1i,if_pos this]
    ·have:=d0b ys xs i hi' hi (a1s cy) (a1s cx) (by omega);rw[if_neg (by simpa using hlt),b1i,if_neg (by omega),if_pos this]) (fun g=>by
   unfold P.b7s;dsimp only;rw[if_neg (by simp;omega),Nat.sub_self,List.take_zero,List.take_zero];rfl) (by omega)
  rw[show(xs.length:Int) - 1 - ((0:Nat):Int)=(xs.length:Int) - 1 by omega,Nat.sub_zero,List.take_length,List.take_of_length_le (by omega)]at key;exact key
 ·rw[if_pos (by simp;omega)]
  by_cases hlt:xs.length<ys.length
  ·rw[if_pos (decide_eq_true (by omega)),b1i,if_pos (b1j a0d cx cy hlt)]
  ·have:=b1j a0d cy cx (by omega);rw[if_neg (by simp;omega),b1i,if_neg (by omega),if_pos this]
abbrev P.b5l (x1:List Int×Unit) (g2:List Int×Unit->Option (List Int×Unit)):Option (List Int×Unit):=
 if decide ((x1.1.length:Int)>0)then if decide (0<=(wrap .i64 ((x1.1.length:Int) - 1)))then if decide ((wrap .i64 ((x1.1.length:Int) - 1))<(x1.1.length:Int))then if(x1.1.getD (Int.toNat (wrap .i64 ((x1.1.length:Int) - 1))) 0)==0 then if decide (0<=(wrap .i64 ((x1.1.length:Int) - 1)))then if decide ((wrap .i64 ((x1.1.length:Int) - 1))<=(x1.1.length:Int))then if decide (0<=(wrap .i64 ((x1.1.length:Int) - 1)))then g2 (seen x1.1 0 ((Int.toNat (wrap .i64 ((x1.1.length:Int) - 1))) - 0),())else none else none else none else some (x1.1,())else none else none else some (x1.1,())
def P.e4j (k:Nat) (x:List Int×Unit):Option (List Int×Unit):=
 loopP P.b5l k (x.1,())
theorem trim_loopS (n:Nat):∀(xs:List Int) (k:Nat),xs.length=n->n<k->n<=1000000000000->dig B10 xs=true->loopP (X:=((List Int)×Unit)) (R:=((List Int)×Unit)) P.b5l k (xs,())=some (nd B10 (a0c B10 xs),()):=by
 induction n with
 |zero=>
  intro xs k hx hk _ _;have:xs=[]:=List.eq_nil_of_length_eq_zero hx;subst this;obtain⟨k,rfl⟩:∃j,k=j+1:=⟨k - 1,by omega⟩
  rw[a0l];unfold P.b5l;rw[if_neg (by simp)];rw[show a0c B10 []=0 from rfl,a1v a0d]
 |succ n ih=>
  intro xs k hx hk hn hd;obtain⟨k,rfl⟩:∃j,k=j+1:=⟨k - 1,by omega⟩
  rw[a0l];unfold P.b5l;dsimp only;have e0:IntKind.wrap .i64 ((xs.length:Int) - 1)=(n:Int):=by rw[wr (by omega) (by omega)];omega
  have e1:(xs.length:Int)>0:=by omega
  have e2:(0:Int)<=(n:Int):=by omega
  have e3:(n:Int)<(xs.length:Int):=by omega
  have e4:(n:Int)<=(xs.length:Int):=by omega
  rw[e0];simp only[e1,e2,e3,e4,decide_true,if_true];rw[a0o xs n _ (by omega)];have hs:=c4p xs n hx;have hdt:dig B10 (xs.take n++[xs[n]])=true:=by rw[<-hs];exact hd
  by_cases hz:xs[n]=0
  ·rw[if_pos (by simp [hz])];have e5:seen xs 0 ((n:Int).toNat - 0)=xs.take n:=by simp [seen]
   rw[e5];have hdt':=hdt;rw[a1o,Bool.and_eq_true]at hdt';rw[ih (xs.take n) k (by simp;omega) (by omega) (by omega) hdt'.1];have:a0c B10 xs=a0c B10 (xs.take n):=by
    conv=>lhs;rw[hs,hz]
    exact b1w _
   rw[this]
  ·rw[if_neg (by simp [hz])];have:=d3x a0d (xs.take n) xs[n] hdt hz;rw[<-hs]at this;rw[this]
def S.a3t (x:((List Int)×Unit)):(Option ((List Int)×Unit)):=if dig B10 x.1=true/\x.1.length<=1000000000000 then some (nd B10 (a0c B10 x.1),())else none
theorem S.e4k (x r) (h:S.a3t x=some r):∃k,P.e4j k x=some r:=by
 obtain⟨xs,u⟩:=x;unfold S.a3t at h;dsimp only at h;split at h
 case isFalse=>cases h
 rename_i hc;cases h;exact⟨xs.length+1,trim_loopS xs.length xs _ rfl (by omega) hc.2 hc.1⟩
theorem trim_s (xs:List Int) (h:dig B10 xs=true) (hl:xs.length<=1000000000000):S.a3t (xs,())=some (nd B10 (a0c B10 xs),()):=by
 unfold S.a3t;dsimp only;rw[if_pos ⟨h,hl⟩]
abbrev s_l01NatMul.A:=Int×Int×List Int×Int×List Int×List Int×Int×Int×Int×Unit
abbrev s_l01NatMul.B:=Int×Int×List Int×List Int×List Int×Unit
abbrev s_l01NatMul.C:=Option (List Int×Unit)
abbrev P.a7v (g2:s_l01NatMul.B->s_l01NatMul.C) (x4:s_l01NatMul.A) (g5:s_l01NatMul.A->s_l01NatMul.C):s_l01NatMul.C:=
 (fun(a b d h i j:Int) (c e f:List Int)=>if decide (a<b)then if decide (0<=(wrap .i64 (d+a)))then if decide ((wrap .i64 (d+a))<(c.length:Int))then if decide (0<=d)then if decide (d<(e.length:Int))then if decide (0<=a)then if decide (a<(f.length:Int))then if decide (0<=(wrap .i64 (d+a)))then if decide ((wrap .i64 (d+a))<(c.length:Int))then g5 (wrap .i64 (a+1),b,c.set (0+(Int.toNat (wrap .i64 (d+a)))) (Int.tmod (wrap .i64 ((wrap .i64 ((c.getD (0+(Int.toNat (wrap .i64 (d+a)))) 0)+(wrap .i64 ((e.getD d.toNat 0)*(f.getD a.toNat 0)))))+h)) 1000000000),d,e,f,wrap .i64 (Int.tdiv (wrap .i64 ((wrap .i64 ((c.getD (0+(Int.toNat (wrap .i64 (d+a)))) 0)+(wrap .i64 ((e.getD d.toNat 0)*(f.getD a.toNat 0)))))+h)) 1000000000),i,j,())else none else none else none else none else none else none else none else none else if decide (0<=(wrap .i64 (d+(f.length:Int))))then if decide ((wrap .i64 (d+(f.length:Int)))<(c.length:Int))then if decide (0<=(wrap .i64 (d+(f.length:Int))))then if decide ((wrap .i64 (d+(f.length:Int)))<(c.length:Int))then g2 (wrap .i64 (i+1),j,f,c.set (0+(Int.toNat (wrap .i64 (d+(f.length:Int))))) (wrap .i64 ((c.getD (0+(Int.toNat (wrap .i64 (d+(f.length:Int))))) 0)+h)),e,())else none else none else none else none) x4.1 x4.2.1 x4.2.2.2.1 x4.2.2.2.2.2.2.1 x4.2.2.2.2.2.2.2.1 x4.2.2.2.2.2.2.2.2.1 x4.2.2.1 x4.2.2.2.2.1 x4.2.2.2.2.2.1
abbrev P.b1s (k:Nat) (x1:s_l01NatMul.B) (g2:s_l01NatMul.B->s_l01NatMul.C):s_l01NatMul.C:=
 if decide (x1.1<x1.2.1)then loopP (P.a7v g2) k (0,(x1.2.2.1.length:Int),x1.2.2.2.1,x1.1,x1.2.2.2.2.1,x1.2.2.1,0,x1.1,x1.2.1,())else(S.a3t (x1.2.2.2.1,())).bind fun y6=>some (y6.1,())
def P.c2k (k:Nat) (x:List Int×List Int×Unit):s_l01NatMul.C:=
 if decide (0<=(wrap .i64 ((x.1.length:Int)+(x.2.1.length:Int))))then if decide ((wrap .i64 ((x.1.length:Int)+(x.2.1.length:Int)))<=(wrap .i64 ((x.1.length:Int)+(x.2.1.length:Int))))then if decide (((wrap .i64 ((x.1.length:Int)+(x.2.1.length:Int)))*8)<=281474976710656)then loopP (P.b1s k) k (0,(x.1.length:Int),x.2.1,List.replicate (Int.toNat (wrap .i64 ((x.1.length:Int)+(x.2.1.length:Int)))) 0,x.1,())else none else none else none
theorem sm_inner (g:(Int×(Int×((List Int)×((List Int)×((List Int)×Unit)))))->(Option ((List Int)×Unit))) (F:Option ((List Int)×Unit)) {xs ys:List Int} (hx:dig B10 xs=true) (hy:dig B10 ys=true) (hlx:xs.length<=10000000000) (hly:ys.length<=10000000000) {i:Nat} (hi:i<xs.length) (K:Nat) (hK:ys.length<K)
  (hg:g (((i+1:Nat):Int),((xs.length:Int),(ys,(fd B10 (xs.length+ys.length) (a0c B10 (xs.take (i+1))*a0c B10 ys),(xs,())))))=F):
  loopP (P.a7v g) K ((0:Int),((ys.length:Int),(fd B10 (xs.length+ys.length) (a0c B10 (xs.take i)*a0c B10 ys),((i:Int),(xs,(ys,((0:Int),((i:Int),((xs.length:Int),())))))))))=F:=by
 have hA:=b6x a0d hx hy i (by omega);have hA':=b6x a0d hx hy (i+1) (by omega);have gx:=a1e (B:=B10) (by decide) hx i;have gx1:xs.getD i 0<1000000000:=gx.2;have gx0:=gx.1;rw[a2i,Nat.add_mul,Nat.mul_assoc]at hg hA';generalize a0c B10 (xs.take i)*a0c B10 ys=A at*;obtain⟨x,hxe⟩:∃x:Nat,xs.getD i 0=(x:Int):=⟨(xs.getD i 0).toNat,by omega⟩
 rw[hxe,Int.toNat_natCast]at hg hA';rw[hxe]at gx1;have hxB:x<B10:=by show x<1000000000;omega
 have hsh:=mul_shape a0d hi hA;rw[hsh];have hlw:(fd B10 ys.length (A/B10^i)).length=ys.length:=a2x _ _ _;have hdw:dig B10 (fd B10 ys.length (A/B10^i))=true:=b5u (by decide) _ _;have hvw:a0c B10 (fd B10 ys.length (A/B10^i))=A/B10^i:=by
  rw[b8m,Nat.mod_eq_of_lt];rw[Nat.div_lt_iff_lt_mul (Nat.pow_pos (by decide)),<-Nat.pow_add,Nat.add_comm];exact hA
 have hnext:=mul_next a0d (la:=xs.length) (lb:=ys.length) (R:=x*a0c B10 ys) hi hA';generalize hR:List.replicate (xs.length - 1 - i) (0:Int)=R at*;have hRl:R.length=xs.length - 1 - i:=by rw[<-hR,List.length_replicate]
 generalize hW:fd B10 ys.length (A/B10^i)=W at*;have hl0:(fd B10 i A).length=i:=a2x _ _ _;have key:=a0f (k:=K) (b:=P.a7v g) (n:=ys.length) (st:=fun k=>((k:Int),(ys.length:Int),(fd B10 i A++(b9a B10 x W ys k).1)++(W.drop k++(0:Int)::R),(i:Int),xs,ys,((b9a B10 x W ys k).2:Int),(i:Int),(xs.length:Int),())) (F:=fun k=>F) (fun k g' hk hg'=>by
  unfold P.a7v;dsimp only at hg' ⊢;refine Eq.trans ?_ hg';clear hg';obtain⟨q1,q2,q3,q4⟩:=e2d (x:=x) a0d hxB hdw hy k;have q4':(b9a B10 x W ys k).2<1000000000:=q4;have gy:=a1e (B:=B10) (by decide) hy k;have gw:=a1e (B:=B10) (by decide) hdw k;have gy1:ys.getD k 0<1000000000:=gy.2;have gw1:W.getD k 0<1000000000:=gw.2;have gy0:=gy.1;have gw0:=gw.1;have hAl:(fd B10 i A++(b9a B10 x W ys k).1).length=i+k:=by rw[List.length_append,hl0,q2]
  have hlen:((fd B10 i A++(b9a B10 x W ys k).1)++(W.drop k++(0:Int)::R)).length=xs.length+ys.length:=by
   rw[List.length_append,hAl,List.length_append,List.length_drop,List.length_cons,hlw,hRl];omega
  have e1:(k:Int)<(ys.length:Int):=by omega
  have e2:(0:Int)<=(k:Int):=by omega
  have e3:(0:Int)<=((i+k:Nat):Int):=by omega
  have e4:((i+k:Nat):Int)<((xs.length+ys.length:Nat):Int):=by omega
  have e5:(0:Int)<=(i:Int):=by omega
  have e6:(i:Int)<(xs.length:Int):=by omega
  rw[hlen,<-Int.natCast_add i k,wr (x:=((i+k:Nat):Int)) (by omega) (by omega)];simp only[e1,e2,e3,e4,e5,e6,decide_true,if_true,Nat.zero_add,Int.toNat_natCast];rw[a2t (xs:=W) (i:=k) (by omega),List.cons_append,b1l hAl,hxe];simp only[b2v hAl];rw[b9a];dsimp only;generalize W.getD k 0=w at*;generalize ys.getD k 0=y at*;generalize b9a B10 x W ys k=p at*;obtain⟨pl,c0⟩:=p;dsimp only at*;obtain⟨Y,rfl⟩:∃Y:Nat,y=(Y:Int):=⟨y.toNat,by omega⟩
  obtain⟨w',rfl⟩:∃Y:Nat,w=(Y:Int):=⟨w.toNat,by omega⟩
  rw[Int.toNat_natCast,Int.toNat_natCast];have hxY:x*Y<=999999999*999999999:=Nat.mul_le_mul (by omega) (by omega);rw[<-Int.natCast_mul,wr (x:=((x*Y:Nat):Int)) (by omega) (by omega),<-Int.natCast_add,wr (x:=((w'+x*Y:Nat):Int)) (by omega) (by omega),<-Int.natCast_add,wr (x:=((w'+x*Y+c0:Nat):Int)) (by omega) (by omega),Int.tdiv_eq_ediv_of_nonneg (by omega),Int.tmod_eq_emod_of_nonneg (by omega),wr (x:=(k:Int)+1) (by omega) (by omega)];have e8:((w'+x*Y+c0:Nat):Int)%1000000000=(((c0+(x*Y+w'))%B10:Nat):Int):=by
   show _=(((c0+(x*Y+w'))%1000000000:Nat):Int)
   omega
  have e9:((w'+x*Y+c0:Nat):Int)/1000000000=(((c0+(x*Y+w'))/B10:Nat):Int):=by
   show _=(((c0+(x*Y+w'))/1000000000:Nat):Int)
   omega
  have e10:(c0+(x*Y+w'))/B10<=4000000000:=by
   show(c0+(x*Y+w'))/1000000000<=_;omega
  rw[e8,e9,wr (x:=(((c0+(x*Y+w'))/B10:Nat):Int)) (by omega) (by omega),<-List.append_assoc (fd B10 i A)];rfl) (fun g'=>by
  unfold P.a7v;dsimp only;obtain⟨q1,q2,q3,q4⟩:=e2d (x:=x) a0d hxB hdw hy ys.length;have q4':(b9a B10 x W ys ys.length).2<1000000000:=q4;rw[List.take_length,<-hlw,List.take_length,hlw,hvw]at q3;have hAl:(fd B10 i A++(b9a B10 x W ys ys.length).1).length=i+ys.length:=by rw[List.length_append,hl0,q2]
  have hlen:((fd B10 i A++(b9a B10 x W ys ys.length).1)++(W.drop ys.length++(0:Int)::R)).length=xs.length+ys.length:=by
   rw[List.length_append,hAl,List.length_append,List.length_drop,List.length_cons,hlw,hRl];omega
  have e1:¬((ys.length:Int)<(ys.length:Int)):=by omega
  have e3:(0:Int)<=((i+ys.length:Nat):Int):=by omega
  have e4:((i+ys.length:Nat):Int)<((xs.length+ys.length:Nat):Int):=by omega
  rw[hlen,<-Int.natCast_add i ys.length,wr (x:=((i+ys.length:Nat):Int)) (by omega) (by omega)];simp only[e1,e3,e4,decide_true,decide_false,if_true,if_false,Bool.false_eq_true,Nat.zero_add,Int.toNat_natCast];rw[List.drop_of_length_le (by omega),List.nil_append,b1l hAl,b2v hAl,Int.zero_add,wr (x:=((b9a B10 x W ys ys.length).2:Int)) (by omega) (by omega),wr (x:=(i:Int)+1) (by omega) (by omega)];generalize b9a B10 x W ys ys.length=p at*;obtain⟨pl,c0⟩:=p;dsimp only at*;have hlt:=a1p q1;rw[q2]at hlt;have hpl:pl=fd B10 ys.length (A/B10^i+x*a0c B10 ys):=by
   have:=fd_eq a0d q1 q2 rfl;rw[this,<-q3,<-c1v B10 ys.length (_+_),Nat.add_mul_mod_self_left,c1v]
  have hc0:c0=(A/B10^i+x*a0c B10 ys)/B10^ys.length:=by
   rw[<-q3,Nat.add_mul_div_left _ _ (Nat.pow_pos (by decide)),Nat.div_eq_of_lt hlt,Nat.zero_add]
  rw[List.append_assoc _ [_],List.singleton_append,hpl,hc0,hnext];exact hg) hK
 rw[show(fd B10 i A++(b9a B10 x W ys 0).1)++(W.drop 0++(0:Int)::R)=(fd B10 i A++W)++(0:Int)::R by rw[show(b9a B10 x W ys 0).1=[]from rfl,List.append_nil,List.drop_zero,List.append_assoc]]at key;exact key
def S.a1i (x:((List Int)×((List Int)×Unit))):(Option ((List Int)×Unit)):=if dig B10 x.1=true/\dig B10 x.2.1=true/\x.1.length<=10000000000/\x.2.1.length<=10000000000 then some (nd B10 (a0c B10 x.1*a0c B10 x.2.1),())else none
theorem S.d5j (x r) (h:S.a1i x=some r):∃k,P.c2k k x=some r:=by
 obtain⟨xs,ys,u⟩:=x;unfold S.a1i at h;dsimp only at h;split at h
 case isFalse=>cases h
 rename_i hc;obtain⟨dx,dy,lx,ly⟩:=hc;cases h;refine⟨xs.length+ys.length+1,?_⟩;unfold P.c2k;dsimp only;have a1:(0:Int)<=((xs.length+ys.length:Nat):Int):=by omega
 have a2:((xs.length+ys.length:Nat):Int)*8<=281474976710656:=by omega
 rw[<-Int.natCast_add,wr (x:=((xs.length+ys.length:Nat):Int)) (by omega) (by omega)];simp only[a1,a2,decide_true,if_true,Int.le_refl,Int.toNat_natCast];have key:=a0f (k:=xs.length+ys.length+1) (b:=P.b1s (xs.length+ys.length+1)) (n:=xs.length) (st:=fun i=>((i:Int),(xs.length:Int),ys,fd B10 (xs.length+ys.length) (a0c B10 (xs.take i)*a0c B10 ys),xs,())) (F:=fun i=>some (nd B10 (a0c B10 xs*a0c B10 ys),())) (fun i g hi hg=>by
  unfold P.b1s;dsimp only at hg ⊢;have e1:(i:Int)<(xs.length:Int):=by omega
  simp only[e1,decide_true,if_true];exact sm_inner g _ dx dy lx ly hi _ (by omega) hg) (fun g=>by
  unfold P.b1s;dsimp only;rw[if_neg (by simp),List.take_length];unfold S.a3t;dsimp only;have hb:=b6x a0d dx dy xs.length (Nat.le_refl _);rw[List.take_length]at hb;rw[if_pos ⟨b5u (by decide) _ _,by rw[a2x];omega⟩,Option.bind_some,nd_fd a0d hb]) (by omega)
 rw[List.take_zero,show a0c B10 []*a0c B10 ys=0 by simp [a0c],fd_zero]at key;exact key
def P.c5y (k:Nat) (x:RB×RB×Unit):Option (Bool×Unit):=
 if x.1.1==x.2.1.1 then(S.a1i (x.1.2.1,x.2.1.2.2,())).bind fun y0=>(S.a1i (x.2.1.2.1,x.1.2.2,())).bind fun y1=>(S.a0n (y0.1,y1.1,())).bind fun y2=>some (y2.1==0,())else some (false,())
def S.a4e (x:(RB×(RB×Unit))):(Option (Bool×Unit)):=if rok B10 40000000 x.1=true/\rok B10 40000000 x.2.1=true then some (decide ((rv B10 x.1).1=(rv B10 x.2.1).1/\(rv B10 x.1).2.1*(rv B10 x.2.1).2.2=(rv B10 x.2.1).2.1*(rv B10 x.1).2.2),())else none
theorem S.d9l (x r) (h:S.a4e x=some r):∃k,P.c5y k x=some r:=by
 obtain⟨x,y,u⟩:=x;unfold S.a4e at h;dsimp only at h;split at h
 case isFalse=>cases h
 rename_i hc;obtain⟨n1,p1,q1,rfl,l1,l2⟩:=b0t hc.1;obtain⟨n2,p2,q2,rfl,l3,l4⟩:=b0t hc.2;rw[b9b a0d,b9b a0d]at h;cases h;refine⟨0,?_⟩;unfold P.c5y;dsimp only;have em:∀p q,(nd B10 p).length<=40000000->(nd B10 q).length<=40000000->S.a1i (nd B10 p,(nd B10 q,()))=some (nd B10 (p*q),()):=by
  intro p q hp hq;unfold S.a1i;dsimp only;rw[if_pos ⟨a3w a0d _,a3w a0d _,by omega,by omega⟩,a0i a0d,a0i a0d]
 have ec:S.a0n (nd B10 (p1*q2),(nd B10 (p2*q1),()))=some (b1i (p1*q2) (p2*q1),()):=by
  have:=a5b a0d p1 q2;unfold S.a0n;dsimp only;rw[if_pos ⟨a0m a0d _,a0m a0d _,by omega⟩,a0i a0d,a0i a0d]
 by_cases hn:n1=n2
 ·rw[if_pos (by simpa using hn),em _ _ l1 l4,Option.bind_some,em _ _ l3 l2,Option.bind_some];dsimp only;rw[ec,Option.bind_some];dsimp only;have hz:=a5a (a:=p1*q2) (b:=p2*q1)
  by_cases he:p1*q2=p2*q1
  ·rw[decide_eq_true ⟨hn,he⟩,hz.2 he];rfl
  ·rw[decide_eq_false (fun z=>he z.2),beq_eq_false_iff_ne.2 (fun z=>he (hz.1 z))]
 ·rw[if_neg (by simpa using hn),decide_eq_false (fun z=>hn z.1)]
theorem rs_equal {x y:Q3} (hx:low x) (hy:low y) (bx:below 350000000 x) (bY:below 350000000 y):S.a4e (rp B10 x,(rp B10 y,()))=some (decide (x=y),()):=by
 unfold S.a4e;dsimp only;rw[if_pos ⟨b1n (by decide) bx (by decide),b1n (by decide) bY (by decide)⟩,a3q a0d,a3q a0d];congr 2;rw[decide_eq_decide];constructor
 ·rintro ⟨h1,h2⟩
  refine c1x hx hy ?_;unfold qv;rw[Rat.mkRat_eq_iff (by have:=hx.1;omega) (by have:=hy.1;omega),c3c,c3c,h1,h2]
 ·rintro rfl
  exact⟨rfl,rfl⟩
abbrev P.a8m (x1:List Int×Int×Int×Unit) (g2:List Int×Int×Int×Unit->Option (ByteArray×Unit)):Option (ByteArray×Unit):=
 (fun(a:List Int) (b c:Int)=>if(a.length:Int)==0 then if decide ((Int.tmod b 10)<0)then if decide ((((List.length [wrap .u8 (wrap .i64 (48+(wrap .i64 (0 - (Int.tmod b 10)))))])+a.length)*1)<=140737488355328)then g2 ([wrap .u8 (wrap .i64 (48+(wrap .i64 (0 - (Int.tmod b 10)))))]++a,wrap .i64 (Int.tdiv b 10),c,())else none else if decide ((((List.length [wrap .u8 (wrap .i64 (48+(Int.tmod b 10)))])+a.length)*1)<=140737488355328)then g2 ([wrap .u8 (wrap .i64 (48+(Int.tmod b 10)))]++a,wrap .i64 (Int.tdiv b 10),c,())else none else if b != 0 then if decide ((Int.tmod b 10)<0)then if decide ((((List.length [wrap .u8 (wrap .i64 (48+(wrap .i64 (0 - (Int.tmod b 10)))))])+a.length)*1)<=140737488355328)then g2 ([wrap .u8 (wrap .i64 (48+(wrap .i64 (0 - (Int.tmod b 10)))))]++a,wrap .i64 (Int.tdiv b 10),c,())else none else if decide ((((List.length [wrap .u8 (wrap .i64 (48+(Int.tmod b 10)))])+a.length)*1)<=140737488355328)then g2 ([wrap .u8 (wrap .i64 (48+(Int.tmod b 10)))]++a,wrap .i64 (Int.tdiv b 10),c,())else none else if decide (c<0)then if decide (((1+a.length)*1)<=140737488355328)then some (c0c ([45]++a),())else none else some (c0c a,())) x1.1 x1.2.1 x1.2.2.1
def P.d9m (k:Nat) (x:Int×Unit):Option (ByteArray×Unit):=
 loopP P.a8m k ([],x.1,x.1,())
def digI (u:Nat):List Int:=(Go.Lib.decDigits u).map fun b=>(b.toNat:Int)
theorem d7l {u:Nat} (h:u<10):digI u=[48+(u:Int)]:=by
 unfold digI;rw[Go.Lib.decDigits,dif_pos h];simp only[List.map_cons,List.map_nil,List.cons.injEq,and_true];rw[UInt8.toNat_ofNat'];omega
theorem digI_step {u:Nat} (h:¬u<10):digI u=digI (u/10)++[48+((u%10:Nat):Int)]:=by
 unfold digI;rw[Go.Lib.decDigits,dif_neg h,List.map_append];simp only[List.map_cons,List.map_nil];rw[UInt8.toNat_ofNat'];congr 2;omega
theorem e4l (l:List UInt8):c0c (l.map fun b=>(b.toNat:Int))=⟨l.toArray⟩:=by
 unfold c0c;rw[List.map_map];have:((fun n:Int=>UInt8.ofNat n.toNat) ∘ fun b:UInt8=>(b.toNat:Int))=id:=by
  funext b;simp
 rw[this,List.map_id]
theorem wr8 {x:Int} (h0:0<=x) (h1:x<=255):IntKind.wrap .u8 x=x:=by
 show x%256=x;omega
def sgn (neg:Bool) (u:Nat):Int:=if neg=true then -(u:Int)else(u:Int)
theorem sgn_tmod (neg:Bool) (u:Nat):Int.tmod (sgn neg u) 10=sgn neg (u%10):=by
 cases neg
 ·show Int.tmod (u:Int) 10=((u%10:Nat):Int)
  rw[Int.tmod_eq_emod_of_nonneg (by omega)];omega
 ·show Int.tmod (-(u:Int)) 10= -((u%10:Nat):Int);rw[Int.neg_tmod,Int.tmod_eq_emod_of_nonneg (by omega)];omega
theorem sgn_tdiv (neg:Bool) (u:Nat):Int.tdiv (sgn neg u) 10=sgn neg (u/10):=by
 cases neg
 ·show Int.tdiv (u:Int) 10=((u/10:Nat):Int)
  rw[Int.tdiv_eq_ediv_of_nonneg (by omega)];omega
 ·show Int.tdiv (-(u:Int)) 10= -((u/10:Nat):Int);rw[Int.neg_tdiv,Int.tdiv_eq_ediv_of_nonneg (by omega)];omega
theorem e4m (neg:Bool) (u:Nat) (n:Int) (out:List Int) (g:((List Int)×(Int×(Int×Unit)))->Option (ByteArray×Unit)) (hu:u<=9223372036854775808) (hs:neg=false->u<=9223372036854775807) (ho:out.length<=1000) (hc:out=[]\/u≠0):
  P.a8m (out,sgn neg u,n,()) g=g ((48+((u%10:Nat):Int))::out,sgn neg (u/10),n,()):=by
 have hw:IntKind.wrap .i64 (sgn neg (u/10))=sgn neg (u/10):=by
  apply wr<;>unfold sgn<;>split<;>omega
 have hA:∀(a b:Option (ByteArray×Unit)),(if((decide (sgn neg (u%10)<(0:Int)))=true)then a else b)=(if(sgn neg (u%10)<0)then a else b):=by
  intro a b
  by_cases h:sgn neg (u%10)<0<;>simp [h]
 have hneg:sgn neg (u%10)<0->IntKind.wrap .i64 ((0:Int) - sgn neg (u%10))=((u%10:Nat):Int):=by
  intro h;unfold sgn at h ⊢;split at h
  ·rename_i hn;rw[if_pos hn,wr (by omega) (by omega)];omega
  ·omega
 have hpos:¬sgn neg (u%10)<0->sgn neg (u%10)=((u%10:Nat):Int):=by
  intro h;unfold sgn at h ⊢;split at h
  ·rename_i hn;rw[if_pos hn];omega
  ·rename_i hn;rw[if_neg hn]
 have hch:IntKind.wrap .u8 (IntKind.wrap .i64 ((48:Int)+((u%10:Nat):Int)))=48+((u%10:Nat):Int):=by
  rw[wr (by omega) (by omega),wr8 (by omega) (by omega)]
 have hlen:∀c:Int,((List.length (c::([]:List Int))+List.length out)*1<=140737488355328):=by
  intro c;simp;omega
 unfold P.a8m;dsimp only;have hu0:u≠0->sgn neg u≠0:=by
  intro h;unfold sgn;split<;>omega
 simp only[hA,sgn_tmod,sgn_tdiv,hw];have hin:∀X Y:Option (ByteArray×Unit),(sgn neg (u%10)<0->X=g ((48+((u%10:Nat):Int))::out,sgn neg (u/10),n,()))->(¬sgn neg (u%10)<0->Y=g ((48+((u%10:Nat):Int))::out,sgn neg (u/10),n,()))->
   (if sgn neg (u%10)<0 then X else Y)=g ((48+((u%10:Nat):Int))::out,sgn neg (u/10),n,()):=by
  intro X Y h1 h2;split
  ·exact h1 (by assumption)
  ·exact h2 (by assumption)
 have key:(if sgn neg (u%10)<0 then(if((decide (((List.length ((IntKind.wrap .u8 (IntKind.wrap .i64 ((48:Int)+(IntKind.wrap .i64 ((0:Int) - sgn neg (u%10))))))::([]:List Int))+(List.length out))*(1:Nat))<=(140737488355328:Nat)))=true)then(g ((((IntKind.wrap .u8 (IntKind.wrap .i64 ((48:Int)+(IntKind.wrap .i64 ((0:Int) - sgn neg (u%10))))))::([]:List Int))++out),(sgn neg (u/10),(n,()))))else none)
   else(if((decide (((List.length ((IntKind.wrap .u8 (IntKind.wrap .i64 ((48:Int)+sgn neg (u%10))))::([]:List Int))+(List.length out))*(1:Nat))<=(140737488355328:Nat)))=true)then(g ((((IntKind.wrap .u8 (IntKind.wrap .i64 ((48:Int)+sgn neg (u%10))))::([]:List Int))++out),(sgn neg (u/10),(n,()))))else none))=g ((48+((u%10:Nat):Int))::out,sgn neg (u/10),n,()):=by
  refine hin _ _ (fun h=> ?_) (fun h=> ?_)
  ·rw[if_pos (decide_eq_true (hlen _)),hneg h,hch];rfl
  ·rw[if_pos (decide_eq_true (hlen _)),hpos h,hch];rfl
 rcases hc with rfl|hc
 ·rw[if_pos (by rfl)];exact key
 ·by_cases ho':(((List.length out):Int)==(0:Int))=true
  ·rw[if_pos ho'];exact key
  ·rw[if_neg ho',if_pos (by simpa using hu0 hc)];exact key
theorem dec_end (neg:Bool) (n:Int) (out:List Int) (g:((List Int)×(Int×(Int×Unit)))->Option (ByteArray×Unit)) (ho:out.length<=1000) (hc:out≠ []):
  P.a8m (out,sgn neg 0,n,()) g=some (c0c (if n<0 then 45::out else out),()):=by
 unfold P.a8m;dsimp only;have h0:sgn neg 0=0:=by cases neg<;>rfl
 rw[if_neg (by simpa using hc),h0,if_neg (by decide)]
 by_cases hn:n<0
 ·rw[if_pos (decide_eq_true hn),if_pos (decide_eq_true (by omega)),if_pos hn];rfl
 ·rw[if_neg (by simpa using hn),if_neg hn]
theorem dec_loop (neg:Bool) (n:Int):∀(u:Nat) (out:List Int) (k:Nat),u≠0->u<=9223372036854775808->(neg=false->u<=9223372036854775807)->out.length+u.log2<=900->u.log2+2<=k->
  loopP P.a8m k (out,sgn neg u,n,())=some (c0c (if n<0 then 45::(digI u++out)else digI u++out),()):=by
 intro u
 induction u using Nat.strongRecOn with
 |ind u ih=>
  intro out k h0 hu hs ho hk;obtain⟨k,rfl⟩:∃j,k=j+1:=⟨k - 1,by omega⟩
  rw[a0l,e4m neg u n out _ hu hs (by omega) (.inr h0)]
  by_cases h:u<10
  ·have e:u/10=0:=by omega
   obtain⟨k,rfl⟩:∃j,k=j+1:=⟨k - 1,by omega⟩
   rw[e,a0l,dec_end neg n _ _ (by simp;omega) (by simp),d7l h,Nat.mod_eq_of_lt h];rfl
  ·have hl:(u/10).log2+1<=u.log2:=by
    have h2:u/10≠0:=by omega
    have a1:2^(u/10).log2<=u/10:=Nat.log2_self_le h2;have a2:2^((u/10).log2+1)<=u:=by rw[Nat.pow_succ];omega
    exact(Nat.le_log2 h0).2 a2
   rw[ih (u/10) (by omega) _ k (by omega) (by omega) (fun hn=>by have:=hs hn;omega) (by simp;omega) (by omega),digI_step h];simp
def S.b7t (x:(Int×Unit)):(Option (ByteArray×Unit)):=if -9223372036854775808<=x.1/\x.1<=9223372036854775807 then some (⟨(Go.Lib.itoa x.1).toArray⟩,())else none
theorem S.s_l01Dec_ok (x r) (h:S.b7t x=some r):∃k,P.d9m k x=some r:=by
 obtain⟨n,u⟩:=x;unfold S.b7t at h;dsimp only at h;split at h
 case isFalse=>cases h
 rename_i hn;cases h;refine⟨200,?_⟩;unfold P.d9m;dsimp only;have hsg:∃neg,n=sgn neg n.natAbs/\(neg=true↔n<0):=by
  by_cases h:n<0
  ·exact⟨true,by unfold sgn;simp;omega,by simp [h]⟩
  ·exact⟨false,by unfold sgn;simp;omega,by simp [h]⟩
 obtain⟨neg,h1,h2⟩:=hsg;have hfin:c0c (if n<0 then 45::digI n.natAbs else digI n.natAbs)=⟨(Go.Lib.itoa n).toArray⟩:=by
  unfold Go.Lib.itoa digI;split
  ·rw[<-e4l];rfl
  ·rw[<-e4l];have:n.natAbs=n.toNat:=by omega
   rw[this]
 by_cases h0:n.natAbs=0
 ·have hn0:n=0:=by omega
  subst hn0;have e0:(0:Int)=sgn false 0:=rfl;show loopP P.a8m (198+1+1) ([],0,0,())=_;rw[a0l]
  conv=>lhs;rw[show(([]:List Int),(0:Int),(0:Int),())=([],sgn false 0,0,())from rfl]
  rw[e4m false 0 0 [] _ (by omega) (by omega) (by simp) (.inl rfl),a0l,show 0/10=0 from rfl,dec_end false 0 _ _ (by simp) (by simp),<-hfin];rw[show(0:Int).natAbs=0 from rfl,d7l (by omega)]
 ·have hb:n.natAbs<=9223372036854775808:=by omega
  have hl:n.natAbs.log2<=64:=by
   have:n.natAbs.log2<65:=(Nat.log2_lt h0).2 (by omega);omega
  have:=dec_loop neg n n.natAbs [] 200 h0 hb (fun hf=>by
   have:¬n<0:=fun h=>by rw[h2.2 h]at hf;cases hf
   omega) (by simp;omega) (by omega)
  rw[<-h1]at this;rw[this,List.append_nil,hfin]
abbrev P.a9y (x2:Int×List Int×ByteArray×Unit) (g3:Int×List Int×ByteArray×Unit->Option (ByteArray×Unit)):Option (ByteArray×Unit):=
 if decide (x2.1>=0)then if decide (0<=x2.1)then if decide (x2.1<(x2.2.1.length:Int))then(S.b7t (wrap .i64 ((x2.2.1.getD x2.1.toNat 0)+1000000000),())).bind fun y4=>if decide (0<=(y4.1.size:Int))then if decide ((y4.1.size:Int)<=(y4.1.size:Int))then if decide (1<=(y4.1.size:Int))then if decide ((x2.2.2.1.size+(ByteArray.size (ByteArray.extract y4.1 1 (Int.toNat (y4.1.size:Int)))))<=9223372036854775807)then g3 (wrap .i64 (x2.1 - 1),x2.2.1,x2.2.2.1++(ByteArray.extract y4.1 1 (Int.toNat (y4.1.size:Int))),())else none else none else none else none else none else none else some (x2.2.2.1,())
def P.b9r (k:Nat) (x:List Int×Unit):Option (ByteArray×Unit):=
 if(x.1.length:Int)==0 then some (bs [48],())else if decide (0<=(wrap .i64 ((x.1.length:Int) - 1)))then if decide ((wrap .i64 ((x.1.length:Int) - 1))<(x.1.length:Int))then(S.b7t (x.1.getD (Int.toNat (wrap .i64 ((x.1.length:Int) - 1))) 0,())).bind fun y0=>loopP P.a9y k (wrap .i64 ((x.1.length:Int) - 2),x.1,y0.1,())else none else none
def S.a3n (x:((List Int)×Unit)):(Option (ByteArray×Unit)):=if a2o B10 x.1=true/\x.1.length<=40000000 then some (⟨(Go.Lib.decDigits (a0c B10 x.1)).toArray⟩,())else none
theorem S.d1l (x r) (h:S.a3n x=some r):∃k,P.b9r k x=some r:=by
 obtain⟨xs,u⟩:=x;unfold S.a3n at h;dsimp only at h;split at h
 case isFalse=>cases h
 rename_i hc;obtain⟨ca,la⟩:=hc;cases h;refine⟨xs.length+1,?_⟩;unfold P.b9r;dsimp only
 by_cases he:xs=[]
 ·subst he;rw[if_pos (by rfl),show a0c B10 []=0 from rfl,a7z (by decide)];rfl
 ·have hpos:0<xs.length:=List.length_pos_iff.2 he;obtain⟨m,hm⟩:∃m,xs.length=m+1:=⟨xs.length - 1,by omega⟩
  have dx:=a1s ca;have h0:a0c B10 xs≠0:=by
   intro q;have:=a1h ca;rw[q,a1v a0d]at this;exact he this.symm
  have hdec:∀z:Int,0<=z->z<=2000000000->S.b7t (z,())=some (⟨(Go.Lib.decDigits z.toNat).toArray⟩,()):=by
   intro z z0 z1;unfold S.b7t;dsimp only;rw[if_pos ⟨by omega,by omega⟩];unfold Go.Lib.itoa;rw[if_neg (by omega)]
  have hnz:∀i,i<=m->a0c B10 (xs.drop i)≠0:=by
   intro i hi q;have h1:=a1a (B:=B10) (xs.take i) (xs.drop i);rw[List.take_append_drop,q,Nat.mul_zero,Nat.add_zero]at h1;have h2:=a1p (e2c dx i);have h3:(xs.take i).length=i:=by simp;omega
   rw[h3]at h2;have h4:=nd_low a0d h0;rw[a1h ca,hm,Nat.add_sub_cancel]at h4;have h5:B10^i<=B10^m:=Nat.pow_le_pow_right (by decide) hi;omega
  have hlenD:∀i,(Go.Lib.decDigits (a0c B10 (xs.drop i))).length<=9*xs.length:=by
   intro i;have h1:=a1p (dig_drop dx i);have h2:B10^(xs.drop i).length<=B10^xs.length:=Nat.pow_le_pow_right (by decide) (by simp);rw[show B10=10^9 by decide,<-Nat.pow_mul,<-Nat.pow_mul]at h2;rw[show B10^(xs.drop i).length=10^(9*(xs.drop i).length) by rw[show B10=10^9 by decide,<-Nat.pow_mul]]at h1;exact dec_len (by omega) (by omega)
  have c1:(0:Int)<=(m:Int):=by omega
  have c2:(m:Int)<((m+1:Nat):Int):=by omega
  rw[if_neg (by simp;exact he),hm,wr (x:=((m+1:Nat):Int) - 1) (by omega) (by omega),wr (x:=((m+1:Nat):Int) - 2) (by omega) (by omega),show((m+1:Nat):Int) - 1=(m:Int) by omega,if_pos (decide_eq_true c1),if_pos (decide_eq_true c2),Int.toNat_natCast];have gx:=a1e (B:=B10) (by decide) dx m;have gx1:xs.getD m 0<1000000000:=gx.2;rw[hdec _ gx.1 (by omega),Option.bind_some];have hlast:(xs.getD m 0).toNat=a0c B10 (xs.drop m):=by
   rw[d3y (by omega),List.drop_of_length_le (by omega)];simp [a0c]
  rw[hlast];have key:=a0f (k:=m+1+1) (b:=P.a9y) (n:=m) (st:=fun i=>((m:Int) - 1 - (i:Int),xs,(⟨(Go.Lib.decDigits (a0c B10 (xs.drop (m - i)))).toArray⟩:ByteArray),())) (F:=fun i=>some (⟨(Go.Lib.decDigits (a0c B10 xs)).toArray⟩,())) (fun i g hi hg=>by
   unfold P.a9y;dsimp only at hg ⊢;obtain⟨j,hj⟩:∃j,m - i=j+1:=⟨m - i - 1,by omega⟩
   rw[show m - (i+1)=j by omega,show(m:Int) - 1 - ((i+1:Nat):Int)=(j:Int) - 1 by omega]at hg;rw[hj,show(m:Int) - 1 - (i:Int)=(j:Int) by omega];have d1:(j:Int)>=0:=by omega
   have d2:(0:Int)<=(j:Int):=by omega
   have d3:(j:Int)<(xs.length:Int):=by omega
   have gx:=a1e (B:=B10) (by decide) dx j;have gx1:xs.getD j 0<1000000000:=gx.2;have gx0:=gx.1;rw[if_pos (decide_eq_true d1),if_pos (decide_eq_true d2),if_pos (decide_eq_true d3),Int.toNat_natCast,wr (x:=xs.getD j 0+1000000000) (by omega) (by omega),hdec _ (by omega) (by omega),Option.bind_some];dsimp only;obtain⟨z,hz⟩:∃z:Nat,xs.getD j 0=(z:Int):=⟨(xs.getD j 0).toNat,by omega⟩
   have hzl:z<10^9:=by rw[show(10:Nat)^9=1000000000 by decide];omega
   have e1:=nine_all z (xs.getD j 0) hz hzl;rw[e1];have hs:(⟨(49::a6f 9 z).toArray⟩:ByteArray).size=10:=by rw[c7h,List.length_cons,c7i]
   have hx:ByteArray.extract ⟨(49::a6f 9 z).toArray⟩ 1 10=⟨(a6f 9 z).toArray⟩:=by
    apply ByteArray.ext;rw[ByteArray.data_extract];have hl:(a6f 9 z).length=9:=c7i _ _;simp [List.extract_toArray,List.take_of_length_le,hl]
   rw[hs];have f1:(0:Int)<=((10:Nat):Int):=by decide
   have f2:(1:Int)<=((10:Nat):Int):=by decide
   rw[if_pos (decide_eq_true f1),if_pos (decide_eq_true (Int.le_refl _)),if_pos (decide_eq_true f2),show(((10:Nat):Int)).toNat=10 from rfl,hx];have hl1:=hlenD (j+1);have f3:(⟨(Go.Lib.decDigits (a0c B10 (xs.drop (j+1)))).toArray⟩:ByteArray).size+(⟨(a6f 9 z).toArray⟩:ByteArray).size<=9223372036854775807:=by
    rw[c7h,c7h,c7i];omega
   rw[if_pos (decide_eq_true f3),c1w,wr (x:=(j:Int) - 1) (by omega) (by omega)];have e2:Go.Lib.decDigits (a0c B10 (xs.drop (j+1)))++a6f 9 z=Go.Lib.decDigits (a0c B10 (xs.drop j)):=by
    rw[d3y (xs:=xs) (i:=j) (by omega),hz,Int.toNat_natCast];generalize hD:a0c B10 (xs.drop (j+1))=D;have hD0:0<D:=by rw[<-hD];exact Nat.pos_of_ne_zero (hnz (j+1) (by omega))
    have e3:z+B10*D=D*10^9+z:=by rw[Nat.add_comm,Nat.mul_comm]
    rw[e3,d4b 9 D z hD0 hzl]
   rw[e2];exact hg) (fun g=>by
   unfold P.a9y;dsimp only;rw[if_neg (by simp;omega),Nat.sub_self,List.drop_zero]) (by omega)
  rw[Nat.sub_zero,show(m:Int) - 1 - ((0:Nat):Int)=((m+1:Nat):Int) - 2 by omega]at key;exact key
def P.c3w (k:Nat) (x:RB×Unit):Option (Bool×Unit):=
 (S.a3n (x.1.2.1,())).bind fun y0=>if decide ((y0.1.size:Int)<=200)then(S.a3n (x.1.2.2,())).bind fun y1=>some (decide ((y1.1.size:Int)<=200),())else some (false,())
def S.c3x (x:(RB×Unit)):(Option (Bool×Unit)):=P.c3w 0 x
theorem S.e4n (x r) (h:S.c3x x=some r):∃k,P.c3w k x=some r:=⟨0,h⟩
def P.c3y (k:Nat) (x:RB×Unit):Option (ByteArray×Unit):=
 (S.a3n (x.1.2.1,())).bind fun y0=>if x.1.1 then if decide ((1+y0.1.size)<=9223372036854775807)then(S.a0n (x.1.2.2,[1],())).bind fun y1=>if y1.1 != 0 then(S.a3n (x.1.2.2,())).bind fun y2=>if decide ((1+y2.1.size)<=9223372036854775807)then if decide (((ByteArray.size ((bs [45])++y0.1))+(ByteArray.size ((bs [47])++y2.1)))<=9223372036854775807)then some (((bs [45])++y0.1)++((bs [47])++y2.1),())else none else none else some ((bs [45])++y0.1,())else none else(S.a0n (x.1.2.2,[1],())).bind fun y3=>if y3.1 != 0 then(S.a3n (x.1.2.2,())).bind fun y4=>if decide ((1+y4.1.size)<=9223372036854775807)then if decide ((y0.1.size+(ByteArray.size ((bs [47])++y4.1)))<=9223372036854775807)then some (y0.1++((bs [47])++y4.1),())else none else none else some (y0.1,())
def S.c3z (x:(RB×Unit)):(Option (ByteArray×Unit)):=P.c3y 0 x
theorem S.e4o (x r) (h:S.c3z x=some r):∃k,P.c3y k x=some r:=⟨0,h⟩
def P.d1m (k:Nat) (x:RB×Unit):Option ((ByteArray×Bool)×Unit):=
 (S.c3x ((x.1.1,x.1.2.1,x.1.2.2),())).bind fun y0=>if !y0.1 then some ((bs [],false),())else(S.c3z ((x.1.1,x.1.2.1,x.1.2.2),())).bind fun y1=>some ((y1.1,true),())
def S.b4t (x:(RB×Unit)):(Option ((ByteArray×Bool)×Unit)):=if rok B10 40000000 x.1=true then some (d6w (rv B10 x.1),())else none
theorem S.e4p (x r) (h:S.b4t x=some r):∃k,P.d1m k x=some r:=by
 obtain⟨⟨neg,as,bs'⟩,u⟩:=x;unfold S.b4t at h;dsimp only at h;split at h
 case isFalse=>cases h
 rename_i hc;cases h;rw[b8o]at hc;obtain⟨ca,cb,la,lb⟩:=hc;dsimp only at ca cb la lb;refine⟨0,?_⟩;unfold P.d1m S.c3x S.c3z P.c3w P.c3y;dsimp only;have e1:∀xs,a2o B10 xs=true->xs.length<=40000000->S.a3n (xs,())=some (⟨(Go.Lib.decDigits (a0c B10 xs)).toArray⟩,()):=by
  intro xs cx lx;unfold S.a3n;exact if_pos ⟨cx,lx⟩
 have e3:S.a0n (bs',([1],()))=some (b1i (a0c B10 bs') 1,()):=by
  unfold S.a0n;dsimp only;rw[if_pos ⟨cb,b6y a0d,by omega⟩,b8p]
 rw[e1 as ca la,Option.bind_some,e1 bs' cb lb,Option.bind_some,e3,Option.bind_some];dsimp only;have l1:=c4t (show B10<=10^10 by decide) ca;have l2:=c4t (show B10<=10^10 by decide) cb;unfold d6w rv c9t fitN;dsimp only;generalize Go.Lib.decDigits (a0c B10 as)=t1 at*;generalize Go.Lib.decDigits (a0c B10 bs')=t2 at*;rw[show bs [45]=⟨([45]:List UInt8).toArray⟩from rfl,show bs [47]=⟨([47]:List UInt8).toArray⟩from rfl];simp only[Option.bind_some];rw[c1w,c1w,c1w,c1w,c7h,c7h,c7h,c7h];have c1:(1+t1.length<=9223372036854775807):=by omega
 have c2:(1+t2.length<=9223372036854775807):=by omega
 have c3:([45]++t1).length+([47]++t2).length<=9223372036854775807:=by simp;omega
 have c4:t1.length+([47]++t2).length<=9223372036854775807:=by simp;omega
 simp only[c1,c2,c3,c4,decide_true,if_true];have d1:∀t:List UInt8,decide (((t.length:Nat):Int)<=200)=decide (t.length<=200):=by
  intro t;rw[decide_eq_decide];omega
 rw[d1,d1];have d2:((b1i (a0c B10 bs') 1 != 0)=true)↔¬a0c B10 bs'=1:=by
  rw[<-a5a (b:=1)];simp
 by_cases f1:t1.length<=200
 ·by_cases f2:t2.length<=200
  ·by_cases hq:a0c B10 bs'=1
   ·have n2:¬((b1i 1 1 != 0)=true):=by decide
    cases neg<;>simp only[f1,f2,n2,hq,decide_true,if_true,if_false,Bool.false_eq_true,List.append_nil,List.nil_append,Option.bind_some,Bool.not_true,Bool.and_true]
   ·have n2:((b1i (a0c B10 bs') 1 != 0)=true):=d2.2 hq;cases neg<;>simp only[f1,f2,n2,hq,decide_true,if_true,if_false,Bool.false_eq_true,List.nil_append,Option.bind_some,Bool.not_true,Bool.and_true]<;>simp
  ·simp [f1,f2]
 ·simp [f1]
abbrev P.a9z (x1:Int×Int×List RB×List ByteArray×Unit) (g2:Int×Int×List RB×List ByteArray×Unit->Option ((List ByteArray×Bool)×Unit)):Option ((List ByteArray×Bool)×Unit):=
 if decide (x1.1<x1.2.1)then if decide (0<=x1.1)then if decide (x1.1<(x1.2.2.1.length:Int))then(S.b4t (((x1.2.2.1.getD x1.1.toNat (false,[],[])).1,(x1.2.2.1.getD x1.1.toNat (false,[],[])).2.1,(x1.2.2.1.getD x1.1.toNat (false,[],[])).2.2),())).bind fun y3=>if !y3.1.2 then some (([],false),())else if decide (((x1.2.2.2.1.length+(List.length [y3.1.1]))*16)<=140737488355328)then g2 (wrap .i64 (x1.1+1),x1.2.1,x1.2.2.1,x1.2.2.2.1++[y3.1.1],())else none else none else none else some ((x1.2.2.2.1,true),())
def P.b9s (k:Nat) (x:List RB×Unit):Option ((List ByteArray×Bool)×Unit):=
 loopP P.a9z k (0,(x.1.length:Int),x.1,[],())
def S.a8z (x:((List RB)×Unit)):(Option (((List ByteArray)×Bool)×Unit)):=if x.1.all (rok B10 40000000)=true/\x.1.length<=1000000 then some (c9u (x.1.map (rv B10)),())else none
theorem S.d1n (x r) (h:S.a8z x=some r):∃k,P.b9s k x=some r:=by
 obtain⟨xs,u⟩:=x;unfold S.a8z at h;dsimp only at h;split at h
 case isFalse=>cases h
 rename_i hc;cases h;obtain⟨qs,rfl⟩:∃qs:List Q3,xs=qs.map (rp B10):=⟨xs.map (rv B10),by
  rw[List.map_map];have:∀ys:List (Bool×(List Int×List Int)),ys.all (rok B10 40000000)=true->ys.map (rp B10 ∘ rv B10)=ys:=by
   intro ys
   induction ys with
   |nil=>intro _;rfl
   |cons y ys ih=>
    intro hy;rw[List.all_cons,Bool.and_eq_true]at hy;rw[List.map_cons,ih hy.2];show rp B10 (rv B10 y)::ys=_;rw[rp_rv hy.1]
  exact(this xs hc.1).symm⟩
 have hlen:=hc.2;rw[List.length_map]at hlen;refine⟨qs.length+1,?_⟩;unfold P.b9s c9u;dsimp only;have key:=a0f (k:=qs.length+1) (b:=P.a9z) (n:=qs.length) (st:=fun i=>((i:Int),(qs.length:Int),qs.map (rp B10),(qs.take i).map (fun r:Q3=>(⟨(c9t r).toArray⟩:ByteArray)),())) (F:=fun i=>some (if(qs.drop i).all fitN=true then(qs.map (fun r:Q3=>(⟨(c9t r).toArray⟩:ByteArray)),true)else([],false),())) (fun i g hi hg'=>by
  unfold P.a9z;dsimp only at hg' ⊢;have e1:(i:Int)<(qs.length:Int):=by omega
  have e2:(0:Int)<=(i:Int):=by omega
  have e3:(i:Int)<((qs.map (rp B10)).length:Int):=by rw[List.length_map];omega
  simp only[e1,e2,e3,decide_true,if_true];rw[a0o (qs.map (rp B10)) i _ (by rw[List.length_map];exact hi),List.getElem_map];have ht:S.b4t (rp B10 qs[i],())=some (d6w qs[i],()):=by
   unfold S.b4t;dsimp only;rw[if_pos (by have:=List.all_eq_true.1 hc.1 _ (List.mem_map.2 ⟨qs[i],List.getElem_mem hi,rfl⟩);exact this),a3q a0d]
  show Option.bind (S.b4t (rp B10 qs[i],())) _=_;rw[ht,Option.bind_some,List.drop_eq_getElem_cons hi,List.all_cons];dsimp only;cases hf:fitN qs[i]
  ·have hv:d6w qs[i]=(bs [],false):=by unfold d6w;rw[hf];rfl
   rw[hv,if_pos (by decide),Bool.false_and,if_neg (by decide)]
  ·have hv:d6w qs[i]=(⟨(c9t qs[i]).toArray⟩,true):=by unfold d6w;rw[hf];rfl
   rw[hv];have e4:(((qs.take i).map (fun r:Q3=>(⟨(c9t r).toArray⟩:ByteArray))).length+1)*16<=140737488355328:=by
    rw[List.length_map,List.length_take];omega
   rw[if_neg (by simp),wr (by omega) (by omega),Bool.true_and,<-hg'];simp only[List.length_cons,List.length_nil,Nat.zero_add];rw[if_pos (decide_eq_true e4),List.take_add_one,List.getElem?_eq_getElem hi,Option.toList_some,List.map_append];rfl) (fun g=>by
  unfold P.a9z;dsimp only;rw[if_neg (by simp),List.take_length,List.drop_length];rfl) (by omega)
 rw[b8z a0d,List.length_map];refine key.trans ?_;rw[List.drop_zero]
 by_cases ha:qs.all fitN=true
 ·rw[if_pos ha,if_pos ha];congr 3;refine List.map_congr_left fun r hr=> ?_
  unfold d6w;rw[if_pos (List.all_eq_true.1 ha r hr)]
 ·rw[if_neg ha,if_neg ha]
abbrev P.b7u (x1:Int×ByteArray×Int×List ByteArray×Int×Unit) (g2:Int×ByteArray×Int×List ByteArray×Int×Unit->Option (List ByteArray×Unit)):Option (List ByteArray×Unit):=
 (fun(a c e:Int) (b:ByteArray) (d:List ByteArray)=>if decide (a<=(b.size:Int))then if a==(b.size:Int)then if decide (0<=a)then if decide (a<=(b.size:Int))then if decide (0<=e)then if decide (e<=a)then if decide (((d.length+(List.length [ByteArray.extract b e.toNat a.toNat]))*16)<=140737488355328)then g2 (wrap .i64 (a+1),b,c,d++[ByteArray.extract b e.toNat a.toNat],wrap .i64 (a+1),())else none else none else none else none else none else if decide (0<=a)then if decide (a<(b.size:Int))then if(a2e b a)==c then if decide (0<=a)then if decide (a<=(b.size:Int))then if decide (0<=e)then if decide (e<=a)then if decide (((d.length+(List.length [ByteArray.extract b e.toNat a.toNat]))*16)<=140737488355328)then g2 (wrap .i64 (a+1),b,c,d++[ByteArray.extract b e.toNat a.toNat],wrap .i64 (a+1),())else none else none else none else none else none else g2 (wrap .i64 (a+1),b,c,d,e,())else none else none else some (d,())) x1.1 x1.2.2.1 x1.2.2.2.2.1 x1.2.1 x1.2.2.2.1
def P.d9n (k:Nat) (x:ByteArray×Int×Unit):Option (List ByteArray×Unit):=
 loopP P.b7u k (0,x.1,x.2.1,[],0,())
def b0a (s:ByteArray) (c:Int):Nat->List ByteArray×Nat
 |0=>([],0)
 |i+1=>if i=s.size\/a2e s (i:Int)=c then((b0a s c i).1++[s.extract (b0a s c i).2 i],i+1)else b0a s c i
theorem cutUp_le (s:ByteArray) (c:Int) (i:Nat):(b0a s c i).1.length<=i/\(b0a s c i).2<=i:=by
 induction i with
 |zero=>exact⟨Nat.le_refl _,Nat.le_refl _⟩
 |succ i ih=>
  unfold b0a;split
  ·refine⟨?_,Nat.le_refl _⟩;simp;omega
  ·omega
def S.a8f (x:(ByteArray×(Int×Unit))):(Option ((List ByteArray)×Unit)):=if x.1.size<=1000000 then some ((b0a x.1 x.2.1 (x.1.size+1)).1,())else none
theorem S.s_l01Cut_ok (x r) (h:S.a8f x=some r):∃k,P.d9n k x=some r:=by
 obtain⟨s,c,u⟩:=x;unfold S.a8f at h;dsimp only at h;split at h
 case isFalse=>cases h
 rename_i hs;cases h;refine⟨s.size+2,?_⟩;unfold P.d9n;dsimp only;have key:=a0f (k:=s.size+2) (b:=P.b7u) (n:=s.size+1) (st:=fun i=>((i:Int),s,c,(b0a s c i).1,((b0a s c i).2:Int),())) (F:=fun i=>some ((b0a s c (s.size+1)).1,())) (fun i g hi hg=>by
  unfold P.b7u;dsimp only at hg ⊢;obtain⟨q1,q2⟩:=cutUp_le s c i;have e1:(i:Int)<=(s.size:Int):=by omega
  have e2:(0:Int)<=(i:Int):=by omega
  have e3:(0:Int)<=((b0a s c i).2:Int):=by omega
  have e4:((b0a s c i).2:Int)<=(i:Int):=by omega
  have e5:((b0a s c i).1.length+([s.extract (b0a s c i).2 i]:List ByteArray).length)*16<=140737488355328:=by simp;omega
  rw[b0a]at hg
  by_cases hq:i=s.size
  ·rw[if_pos (.inl hq)]at hg;rw[<-hg];have e6:((i:Int)==(s.size:Int))=true:=by simp [hq]
   simp only[e1,e2,e3,e4,e6,decide_true,if_true,Int.toNat_natCast];rw[if_pos (decide_eq_true e5),wr (by omega) (by omega)];rfl
  ·have e6:¬((i:Int)==(s.size:Int))=true:=by simp;omega
   have e7:(i:Int)<(s.size:Int):=by omega
   rw[if_pos (decide_eq_true e1),if_neg e6,if_pos (decide_eq_true e2),if_pos (decide_eq_true e7)]
   by_cases hb:a2e s (i:Int)=c
   ·rw[if_pos (.inr hb)]at hg;rw[<-hg,if_pos (by simp [hb])];simp only[e1,e2,e3,e4,decide_true,if_true,Int.toNat_natCast];rw[if_pos (decide_eq_true e5),wr (by omega) (by omega)];rfl
   ·rw[if_neg (fun z=>z.elim hq hb)]at hg;rw[<-hg,if_neg (by simp [hb]),wr (by omega) (by omega)];rfl) (fun g=>by
  unfold P.b7u;dsimp only;rw[if_neg (by simp;omega)]) (by omega)
 exact key
theorem c7z (s:ByteArray) (c:UInt8):(b0a s (c.toNat:Int) (s.size+1)).1.map (·.data.toList)=a5i c s.data.toList:=by
 have hsz:s.size=s.data.toList.length:=by rw[Array.length_toList];rfl
 have hex:∀a b,(s.extract a b).data.toList=(s.data.toList.take b).drop a:=by
  intro a b;simp [ByteArray.data_extract,Array.toList_extract,List.extract_eq_take_drop,List.drop_take]
 have key:∀i,i<=s.size->a5i c s.data.toList=(b0a s (c.toNat:Int) i).1.map (·.data.toList)++glue ((s.data.toList.take i).drop (b0a s (c.toNat:Int) i).2) (a5i c (s.data.toList.drop i)):=by
  intro i
  induction i with
  |zero=>
   intro _;simp [b0a,glue_nil (c0m c _)]
  |succ i ih=>
   intro hi;rw[ih (by omega)];obtain⟨q1,q2⟩:=cutUp_le s (c.toNat:Int) i;have hi':i<s.data.toList.length:=by omega
   have hb:a2e s (i:Int)=(s.data.toList[i].toNat:Int):=by
    unfold a2e;rw[a0o _ i _ hi']
   rw[List.drop_eq_getElem_cons hi',b0a,a5i]
   by_cases hc:s.data.toList[i]=c
   ·rw[if_pos hc,if_pos (.inr (by rw[hb,hc]))];simp only[List.map_append,List.map_cons,List.map_nil,hex,List.append_assoc];congr 1;rw[show List.drop (i+1) (List.take (i+1) s.data.toList)=[]from List.drop_eq_nil_of_le (by simp;omega),glue_nil (c0m c _)];simp [glue]
   ·rw[if_neg hc,if_neg (by
     rw[hb]
     rintro (h|h)
     ·omega
     ·exact hc (UInt8.toNat_inj.1 (by omega)))]
    rw[glue_glue,<-List.take_append_getElem hi',List.drop_append_of_le_length (by simp;omega)]
 have h:=key s.size (Nat.le_refl _);rw[h,b0a,if_pos (.inl rfl)];simp only[List.map_append,List.map_cons,List.map_nil,hex];congr 1;rw[show List.drop s.size s.data.toList=[]from List.drop_eq_nil_of_le (by omega)];simp [a5i,glue]
def P.b3u (k:Nat) (x:List Int×Int×Unit):Option (Int×Unit):=
 if decide (x.2.1<(x.1.length:Int))then if decide (0<=x.2.1)then if decide (x.2.1<(x.1.length:Int))then some (x.1.getD x.2.1.toNat 0,())else none else none else some (0,())
def S.a1u (x:((List Int)×(Int×Unit))):(Option (Int×Unit)):=P.b3u 0 x
theorem S.d9o (x r) (h:S.a1u x=some r):∃k,P.b3u k x=some r:=⟨0,h⟩
def P.c5z (k:Nat) (x:List Int×Unit):Option ((Int×Bool)×Unit):=
 if decide ((x.1.length:Int)>2)then some ((0,false),())else(S.a1u (x.1,0,())).bind fun y0=>(S.a1u (x.1,1,())).bind fun y1=>some ((wrap .i64 (y0.1+(wrap .i64 (1000000000*y1.1))),true),())
theorem dig_s (xs:List Int) (i:Nat):S.a1u (xs,((i:Int),()))=some (xs.getD i 0,()):=by
 unfold S.a1u P.b3u;dsimp only
 by_cases h:i<xs.length
 ·have e1:(i:Int)<(xs.length:Int):=by omega
  have e2:(0:Int)<=(i:Int):=by omega
  simp only[e1,e2,decide_true,if_true,Int.toNat_natCast]
 ·rw[if_neg (by simp;omega)];simp [List.getD,List.getElem?_eq_none (Nat.le_of_not_lt h)]
def S.a7g (x:((List Int)×Unit)):(Option ((Int×Bool)×Unit)):=if dig B10 x.1=true/\x.1.length<=1000000000000 then some ((if x.1.length<=2 then((a0c B10 x.1:Nat):Int)else 0,decide (x.1.length<=2)),())else none
theorem S.d9p (x r) (h:S.a7g x=some r):∃k,P.c5z k x=some r:=by
 obtain⟨xs,u⟩:=x;unfold S.a7g at h;dsimp only at h;split at h
 case isFalse=>cases h
 rename_i hc;obtain⟨hd,hl⟩:=hc;cases h;refine⟨0,?_⟩;unfold P.c5z;dsimp only
 by_cases h2:xs.length<=2
 ·rw[if_neg (by simp;omega),if_pos h2,decide_eq_true h2];rw[show S.a1u (xs,((0:Int),()))=_ from dig_s xs 0,show S.a1u (xs,((1:Int),()))=_ from dig_s xs 1,Option.bind_some,Option.bind_some];dsimp only
  match xs,hd,h2 with
  | [],_,_=>rfl
  | [a],hd,_=>
   rw[a2h]at hd;have h1:a<1000000000:=hd.1.2;have h0:=hd.1.1;show some ((IntKind.wrap .i64 (a+IntKind.wrap .i64 (1000000000*0)),true),())=_;rw[wr (x:=(1000000000:Int)*0) (by omega) (by omega),wr (by omega) (by omega)];simp only[a0c,Option.some.injEq,Prod.mk.injEq,and_true];omega
  | [a,b],hd,_=>
   rw[a2h,a2h]at hd;have h1:a<1000000000:=hd.1.2;have h0:=hd.1.1;have h3:b<1000000000:=hd.2.1.2;have h4:=hd.2.1.1;show some ((IntKind.wrap .i64 (a+IntKind.wrap .i64 (1000000000*b)),true),())=_;rw[wr (x:=(1000000000:Int)*b) (by omega) (by omega),wr (by omega) (by omega)];simp only[a0c,Option.some.injEq,Prod.mk.injEq,and_true];show _=((a.toNat+1000000000*(b.toNat+1000000000*0):Nat):Int)
   omega
  |_::_::_::_,_,h2=>simp at h2
 ·rw[if_pos (decide_eq_true (by omega)),if_neg h2,decide_eq_false h2]
abbrev P.a8g (x1:Int×Int×List Int×Int×Int×List Int×Unit) (g2:Int×Int×List Int×Int×Int×List Int×Unit->Option (List Int×Unit)):Option (List Int×Unit):=
 (fun(a b d e:Int) (c f:List Int)=>if decide (a<b)then if decide (0<=a)then if decide (a<(c.length:Int))then if decide (((f.length+(List.length [Int.tmod (wrap .i64 ((wrap .i64 ((c.getD a.toNat 0)*d))+e)) 1000000000]))*8)<=140737488355328)then g2 (wrap .i64 (a+1),b,c,d,wrap .i64 (Int.tdiv (wrap .i64 ((wrap .i64 ((c.getD a.toNat 0)*d))+e)) 1000000000),f++[Int.tmod (wrap .i64 ((wrap .i64 ((c.getD a.toNat 0)*d))+e)) 1000000000],())else none else none else none else if decide (e>0)then if decide (((f.length+(List.length [e]))*8)<=140737488355328)then some (f++[e],())else none else some (f,())) x1.1 x1.2.1 x1.2.2.2.1 x1.2.2.2.2.1 x1.2.2.1 x1.2.2.2.2.2.1
def P.b7v (k:Nat) (x:List Int×Int×Unit):Option (List Int×Unit):=
 if decide (0<=(wrap .i64 ((x.1.length:Int)+1)))then if decide (((wrap .i64 ((x.1.length:Int)+1))*8)<=281474976710656)then loopP P.a8g k (0,(x.1.length:Int),x.1,x.2.1,0,seen (List.replicate (Int.toNat (wrap .i64 ((x.1.length:Int)+1))) 0) 0 0,())else none else none
def S.a2a (x:((List Int)×(Int×Unit))):(Option ((List Int)×Unit)):=if a2o B10 x.1=true/\0<x.2.1/\x.2.1<=1000000000/\x.1.length<=1000000000000 then some (nd B10 (a0c B10 x.1*x.2.1.toNat),())else none
theorem S.c8y (x r) (h:S.a2a x=some r):∃k,P.b7v k x=some r:=by
 obtain⟨xs,b,u⟩:=x;unfold S.a2a at h;dsimp only at h;split at h
 case isFalse=>cases h
 rename_i hc;obtain⟨hcan,hb0,hb1,hl⟩:=hc;have hd:=a1s hcan;cases h;obtain⟨d,rfl⟩:∃d:Nat,b=(d:Int):=⟨b.toNat,by omega⟩
 refine⟨xs.length+1,?_⟩;unfold P.b7v;dsimp only;rw[wr (by omega) (by omega)];have a1:(0:Int)<=(xs.length:Int)+1:=by omega
 have a3:((xs.length:Int)+1)*8<=281474976710656:=by omega
 rw[if_pos (decide_eq_true a1),if_pos (decide_eq_true a3)];have e0:seen (List.replicate ((xs.length:Int)+1).toNat (0:Int)) 0 (0:Nat)=[]:=by simp [seen]
 rw[e0,Int.toNat_natCast];have key:=a0f (k:=xs.length+1) (b:=P.a8g) (n:=xs.length) (st:=fun i=>((i:Int),(xs.length:Int),xs,(d:Int),((b1k B10 d xs i).2:Int),(b1k B10 d xs i).1,())) (F:=fun i=>some (nd B10 (a0c B10 xs*d),())) (fun i g hi hg=>by
  unfold P.a8g;dsimp only at hg ⊢;obtain⟨q1,q2,q3,q4⟩:=d0d (d:=d) a0d hd i (by omega);have e1:(i:Int)<(xs.length:Int):=by omega
  have e2:(0:Int)<=(i:Int):=by omega
  simp only[e1,e2,decide_true,if_true];have hgD:xs.getD i 0=xs[i]:=by simp [hi]
  have hx:=b6c hd hi;have hx1:xs[i]<1000000000:=hx.2;have hx0:=hx.1;rw[a0o xs i _ hi];rw[b1k,hgD]at hg;generalize hP:b1k B10 d xs i=p at*;obtain⟨z,hz⟩:∃z:Nat,xs[i]=(z:Int):=⟨xs[i].toNat,(Int.toNat_of_nonneg hx0).symm⟩
  rw[hz]at hx1 hg ⊢;rw[Int.toNat_natCast]at hg;have hzd:z*d<=999999999000000000:=Nat.mul_le_mul (show z<=999999999 by omega) (show d<=1000000000 by omega);have em:(z:Int)*(d:Int)=((z*d:Nat):Int):=(Int.natCast_mul _ _).symm;rw[em,wr (x:=((z*d:Nat):Int)) (by omega) (by omega),wr (x:=((z*d:Nat):Int)+(p.2:Int)) (by omega) (by omega)];have eT:Int.tdiv (((z*d:Nat):Int)+(p.2:Int)) 1000000000=(((z*d+p.2)/B10:Nat):Int):=by
   rw[Int.tdiv_eq_ediv_of_nonneg (by omega)];show _=(((z*d+p.2)/1000000000:Nat):Int)
   omega
  have eM:Int.tmod (((z*d:Nat):Int)+(p.2:Int)) 1000000000=(((z*d+p.2)%B10:Nat):Int):=by
   rw[Int.tmod_eq_emod_of_nonneg (by omega)];show _=(((z*d+p.2)%1000000000:Nat):Int)
   omega
  have hq:(z*d+p.2)/B10<=9223372036854775807:=Nat.le_trans (Nat.div_le_self _ _) (by omega);have hcap:(p.1.length+([Int.tmod (((z*d:Nat):Int)+(p.2:Int)) 1000000000]:List Int).length)*8<=140737488355328:=by
   rw[q2];simp;omega
  rw[if_pos (decide_eq_true hcap),eT,eM,wr (x:=(((z*d+p.2)/B10:Nat):Int)) (Int.le_trans (by decide) (Int.natCast_nonneg _)) (Int.ofNat_le.2 hq),wr (by omega) (by omega)];exact hg) (fun g=>by
  unfold P.a8g;dsimp only;obtain⟨q1,q2,q3,q4⟩:=d0d (d:=d) a0d hd xs.length (Nat.le_refl _);rw[List.take_length]at q3;generalize hP:b1k B10 d xs xs.length=p at*;rw[if_neg (by simp)]
  by_cases hz:p.2=0
  ·rw[if_neg (by simp [hz])];rw[hz,Nat.mul_zero,Nat.add_zero]at q3;rw[<-q3];rcases List.eq_nil_or_concat p.1 with e|_
   ·rw[e];show _=some (nd B10 0,());rw[a1v a0d]
   ·by_cases hx:xs=[]
    ·subst hx;have:p.1=[]:=List.eq_nil_of_length_eq_zero q2;rw[this];show _=some (nd B10 0,());rw[a1v a0d]
    ·have hpos:0<xs.length:=List.length_pos_iff.2 hx;have hv:a0c B10 xs≠0:=by
      intro q;have:=a1h hcan;rw[q,a1v a0d]at this;exact hx this.symm
     have hlow:=nd_low a0d hv;rw[a1h hcan]at hlow;have hne:p.1≠ []:=by
      intro q;rw[q]at q2;simp at q2;omega
     have hge:B10^(p.1.length - 1)<=a0c B10 p.1:=by
      rw[q2,q3];exact Nat.le_trans hlow (Nat.le_mul_of_pos_right _ (by omega))
     rw[nd_full a0d q1 hne hge]
  ·have e1:(p.2:Int)>0:=by omega
   have hcap:(p.1.length+([(p.2:Int)]:List Int).length)*8<=140737488355328:=by
    rw[q2];simp;omega
   rw[if_pos (decide_eq_true e1),if_pos (decide_eq_true hcap),<-q3];have hlt:p.2<B10:=by
    have h1:=a1p hd;have h2:B10^xs.length*p.2<B10^xs.length*d:=by
     have:a0c B10 xs*d<B10^xs.length*d:=Nat.mul_lt_mul_of_pos_right h1 (by omega);omega
    have:=Nat.lt_of_mul_lt_mul_left h2;show p.2<1000000000;omega
   have hdd:dig B10 (p.1++[(p.2:Int)])=true:=by
    rw[a1o,q1,Bool.true_and,a2h];exact⟨⟨Int.natCast_nonneg _,Int.ofNat_lt.2 hlt⟩,rfl⟩
   have:=d3x a0d p.1 (p.2:Int) hdd (by omega);rw[a1a,q2]at this;have e2:a0c B10 [(p.2:Int)]=p.2:=by simp [a0c]
   rw[e2]at this;rw[this]) (by omega)
 exact key
abbrev P.a8h (x1:Int×Int×List Int×List Int×Int×Unit) (g2:Int×Int×List Int×List Int×Int×Unit->Option ((List Int×Int)×Unit)):Option ((List Int×Int)×Unit):=
 (fun(a b e:Int) (c d:List Int)=>if decide (a>=0)then if decide (0<=a)then if decide (a<(c.length:Int))then if decide (e=0)then none else if decide (0<=a)then if decide (a<(d.length:Int))then if decide (e=0)then none else g2 (wrap .i64 (a - 1),Int.tmod (wrap .i64 ((wrap .i64 (b*1000000000))+(c.getD a.toNat 0))) e,c,d.set (0+a.toNat) (wrap .i64 (Int.tdiv (wrap .i64 ((wrap .i64 (b*1000000000))+(c.getD a.toNat 0))) e)),e,())else none else none else none else none else(S.a3t (d,())).bind fun y3=>some ((y3.1,b),())) x1.1 x1.2.1 x1.2.2.2.2.1 x1.2.2.1 x1.2.2.2.1
def P.b7w (k:Nat) (x:List Int×Int×Unit):Option ((List Int×Int)×Unit):=
 if decide (0<=(x.1.length:Int))then if decide ((x.1.length:Int)<=(x.1.length:Int))then if decide (((x.1.length:Int)*8)<=281474976710656)then loopP P.a8h k (wrap .i64 ((x.1.length:Int) - 1),0,x.1,List.replicate (Int.toNat (x.1.length:Int)) 0,x.2.1,())else none else none else none
def S.a2r (x:((List Int)×(Int×Unit))):(Option (((List Int)×Int)×Unit)):=if dig B10 x.1=true/\0<x.2.1/\x.2.1<1000000001/\x.1.length<=1000000000000 then some ((nd B10 (a0c B10 x.1/x.2.1.toNat),((a0c B10 x.1%x.2.1.toNat:Nat):Int)),())else none
theorem S.c8z (x r) (h:S.a2r x=some r):∃k,P.b7w k x=some r:=by
 obtain⟨xs,b,u⟩:=x;unfold S.a2r at h;dsimp only at h;split at h
 case isFalse=>cases h
 rename_i hc;obtain⟨hd,hb0,hb1,hl⟩:=hc;cases h;refine⟨xs.length+1,?_⟩;unfold P.b7w;dsimp only;have a1:(0:Int)<=(xs.length:Int):=by omega
 have a2:(xs.length:Int)<=(xs.length:Int):=by omega
 have a3:(xs.length:Int)*8<=281474976710656:=by omega
 simp only[a1,a2,a3,decide_true,if_true];rw[wr (by omega) (by omega),Int.toNat_natCast];have hdr:∀m,dig B10 (xs.drop m)=true:=by
  intro m;have:=List.take_append_drop m xs;have hd':=hd;rw[<-this,a1o,Bool.and_eq_true]at hd';exact hd'.2
 have hbN:0<b.toNat:=by omega
 have key:=a0f (k:=xs.length+1) (b:=P.a8h) (n:=xs.length) (st:=fun j=>((xs.length:Int) - 1 - (j:Int),((d0c B10 b.toNat (xs.drop (xs.length - j))).2:Int),xs,List.replicate (xs.length - j) (0:Int)++(d0c B10 b.toNat (xs.drop (xs.length - j))).1,b,())) (F:=fun j=>some ((nd B10 (a0c B10 xs/b.toNat),((a0c B10 xs%b.toNat:Nat):Int)),())) (fun j g hj hg=>by
  unfold P.a8h;dsimp only at hg ⊢;obtain⟨q1,q2,q3,q4⟩:=e2a B10 b.toNat hbN (xs.drop (xs.length - j)) (hdr _);have hi:xs.length - (j+1)<xs.length:=by omega
  have e5:(xs.length:Int) - 1 - (j:Int)=((xs.length - (j+1):Nat):Int):=by omega
  have e6:xs.drop (xs.length - (j+1))=xs[xs.length - (j+1)]::xs.drop (xs.length - j):=by
   rw[List.drop_eq_getElem_cons hi];congr 2;omega
  have e7:xs.length - j=(xs.length - (j+1))+1:=by omega
  have hlen:(List.replicate (xs.length - j) (0:Int)++(d0c B10 b.toNat (xs.drop (xs.length - j))).1).length=xs.length:=by
   rw[List.length_append,List.length_replicate,q2,List.length_drop];omega
  have hx:=b6c hd hi;have hx1:xs[xs.length - (j+1)]<1000000000:=hx.2;have hx0:=hx.1;have hm:(d0c B10 b.toNat (xs.drop (xs.length - j))).2<b.toNat:=by rw[q4];exact Nat.mod_lt _ hbN
  rw[e6]at hg;rw[hlen,e5,a0o xs _ _ hi];have a1:((xs.length - (j+1):Nat):Int)>=0:=by omega
  have a2:(0:Int)<=((xs.length - (j+1):Nat):Int):=by omega
  have a3:((xs.length - (j+1):Nat):Int)<(xs.length:Int):=by omega
  have a4:¬(b=0):=by omega
  simp only[a1,a3,a4,decide_true,decide_false,if_true,if_false,Bool.false_eq_true];generalize hR:(d0c B10 b.toNat (xs.drop (xs.length - j))).2=R at*;generalize hX:xs[xs.length - (j+1)]=X at*;have hRX:(R:Int)*1000000000+X<b*1000000000:=by omega
  rw[wr (x:=(R:Int)*1000000000) (by omega) (by omega),wr (x:=(R:Int)*1000000000+X) (by omega) (by omega)];have eT:Int.tdiv ((R:Int)*1000000000+X) b=(((R*B10+X.toNat)/b.toNat:Nat):Int):=by
   rw[Int.tdiv_eq_ediv_of_nonneg (by omega)];have:(R:Int)*1000000000+X=((R*1000000000+X.toNat:Nat):Int):=by omega
   rw[this];have hb:b=((b.toNat:Nat):Int):=by omega
   conv=>lhs;rw[hb]
   exact(Int.natCast_ediv _ _).symm
  have eM:Int.tmod ((R:Int)*1000000000+X) b=(((R*B10+X.toNat)%b.toNat:Nat):Int):=by
   rw[Int.tmod_eq_emod_of_nonneg (by omega)];have:(R:Int)*1000000000+X=((R*1000000000+X.toNat:Nat):Int):=by omega
   rw[this];have hb:b=((b.toNat:Nat):Int):=by omega
   conv=>lhs;rw[hb]
   exact(Int.natCast_emod _ _).symm
  have hQ:(R*B10+X.toNat)/b.toNat<B10:=(Nat.div_lt_iff_lt_mul hbN).2 (by
   show R*1000000000+X.toNat<1000000000*b.toNat;omega)
  have hQ':(R*B10+X.toNat)/b.toNat<1000000000:=hQ;have z0:(0:Int)<=(((R*B10+X.toNat)/b.toNat:Nat):Int):=Int.natCast_nonneg _;have z1:(((R*B10+X.toNat)/b.toNat:Nat):Int)<1000000000:=Int.ofNat_lt.2 hQ';rw[eT,eM,wr (Int.le_trans (by decide) z0) (Int.le_of_lt (Int.lt_trans z1 (by decide))),wr (x:=((xs.length - (j+1):Nat):Int) - 1) (by omega) (by omega),Nat.zero_add,Int.toNat_natCast];have hset:∀(Q:List Int) (v:Int),(List.replicate (xs.length - j) (0:Int)++Q).set (xs.length - (j+1)) v=List.replicate (xs.length - (j+1)) 0++v::Q:=by
   intro Q v;rw[e7];exact e2b _ _ _
  rw[hset,<-hg];congr 1;simp only[Prod.mk.injEq,d0c];rw[hR]
  and_intros<;>first|rfl|omega|trivial) (fun g=>by
  unfold P.a8h;dsimp only;obtain⟨q1,q2,q3,q4⟩:=e2a B10 b.toNat hbN xs hd;rw[if_neg (by simp;omega),Nat.sub_self,List.drop_zero,List.replicate_zero,List.nil_append,trim_s _ q1 (by omega),Option.bind_some,q3,q4]) (by omega)
 rw[show(xs.length:Int) - 1 - ((0:Nat):Int)=(xs.length:Int) - 1 by omega,Nat.sub_zero,List.drop_length]at key;simpa [d0c]using key
abbrev s_l01TakeOff.A:=Int×Int×List Int×List Int×Int×Int×Int×List Int×Unit
abbrev P.b0b (x1:s_l01TakeOff.A) (g2:s_l01TakeOff.A->Option (Bool×List Int×Unit)):Option (Bool×List Int×Unit):=
 (fun(a b e f h:Int) (c d i:List Int)=>if decide (a<b)then if decide (0<=a)then if decide (a<(c.length:Int))then if decide (0<=(wrap .i64 (e+a)))then if decide ((wrap .i64 (e+a))<(d.length:Int))then if decide ((wrap .i64 ((wrap .i64 ((d.getD (0+(Int.toNat (wrap .i64 (e+a)))) 0) - (Int.tmod (wrap .i64 ((c.getD a.toNat 0)*f)) 1000000000))) - h))<0)then if decide ((wrap .i64 ((wrap .i64 ((wrap .i64 ((d.getD (0+(Int.toNat (wrap .i64 (e+a)))) 0) - (Int.tmod (wrap .i64 ((c.getD a.toNat 0)*f)) 1000000000))) - h))+1000000000))<0)then if decide (0<=(wrap .i64 (e+a)))then if decide ((wrap .i64 (e+a))<(d.length:Int))then g2 (wrap .i64 (a+1),b,c,d.set (0+(Int.toNat (wrap .i64 (e+a)))) (wrap .i64 ((wrap .i64 ((wrap .i64 ((wrap .i64 ((d.getD (0+(Int.toNat (wrap .i64 (e+a)))) 0) - (Int.tmod (wrap .i64 ((c.getD a.toNat 0)*f)) 1000000000))) - h))+1000000000))+1000000000)),e,f,wrap .i64 ((wrap .i64 ((wrap .i64 (Int.tdiv (wrap .i64 ((c.getD a.toNat 0)*f)) 1000000000))+1))+1),i,())else none else none else if decide (0<=(wrap .i64 (e+a)))then if decide ((wrap .i64 (e+a))<(d.length:Int))then g2 (wrap .i64 (a+1),b,c,d.set (0+(Int.toNat (wrap .i64 (e+a)))) (wrap .i64 ((wrap .i64 ((wrap .i64 ((d.getD (0+(Int.toNat (wrap .i64 (e+a)))) 0) - (Int.tmod (wrap .i64 ((c.getD a.toNat 0)*f)) 1000000000))) - h))+1000000000)),e,f,wrap .i64 ((wrap .i64 (Int.tdiv (wrap .i64 ((c.getD a.toNat 0)*f)) 1000000000))+1),i,())else none else none else if decide (0<=(wrap .i64 (e+a)))then if decide ((wrap .i64 (e+a))<(d.length:Int))then g2 (wrap .i64 (a+1),b,c,d.set (0+(Int.toNat (wrap .i64 (e+a)))) (wrap .i64 ((wrap .i64 ((d.getD (0+(Int.toNat (wrap .i64 (e+a)))) 0) - (Int.tmod (wrap .i64 ((c.getD a.toNat 0)*f)) 1000000000))) - h)),e,f,wrap .i64 (Int.tdiv (wrap .i64 ((c.getD a.toNat 0)*f)) 1000000000),i,())else none else none else none else none else none else none else if decide (0<=(wrap .i64 (e+(i.length:Int))))then if decide ((wrap .i64 (e+(i.length:Int)))<(d.length:Int))then if decide (0<=(wrap .i64 (e+(i.length:Int))))then if decide ((wrap .i64 (e+(i.length:Int)))<(d.length:Int))then if decide (0<=(wrap .i64 (e+(i.length:Int))))then if decide ((wrap .i64 (e+(i.length:Int)))<(List.length (d.set (0+(Int.toNat (wrap .i64 (e+(i.length:Int))))) (wrap .i64 ((d.getD (0+(Int.toNat (wrap .i64 (e+(i.length:Int))))) 0) - h))):Int))then some (decide ((List.getD (d.set (0+(Int.toNat (wrap .i64 (e+(i.length:Int))))) (wrap .i64 ((d.getD (0+(Int.toNat (wrap .i64 (e+(i.length:Int))))) 0) - h))) (0+(Int.toNat (wrap .i64 (e+(i.length:Int))))) 0)<0),d.set (0+(Int.toNat (wrap .i64 (e+(i.length:Int))))) (wrap .i64 ((d.getD (0+(Int.toNat (wrap .i64 (e+(i.length:Int))))) 0) - h)),())else none else none else none else none else none else none) x1.1 x1.2.1 x1.2.2.2.2.1 x1.2.2.2.2.2.1 x1.2.2.2.2.2.2.1 x1.2.2.1 x1.2.2.2.1 x1.2.2.2.2.2.2.2.1
def P.b5m (k:Nat) (x:List Int×List Int×Int×Int×Unit):Option (Bool×List Int×Unit):=
 loopP P.b0b k (0,(x.2.1.length:Int),x.2.1,x.1,x.2.2.1,x.2.2.2.1,0,x.2.1,())
def S.a5f (x:((List Int)×((List Int)×(Int×(Int×Unit))))):(Option (Bool×((List Int)×Unit))):=
 if 0<=x.2.2.1/\x.2.2.1.toNat+x.2.1.length<x.1.length/\dig B10 ((x.1.drop x.2.2.1.toNat).take x.2.1.length)=true/\dig B10 x.2.1=true/\0<=x.1.getD (x.2.2.1.toNat+x.2.1.length) 0/\x.1.getD (x.2.2.1.toNat+x.2.1.length) 0<=1000000000/\0<=x.2.2.2.1/\x.2.2.2.1<1000000000/\x.1.length<=1000000000000 then
  let T:Int:=((a0c B10 ((x.1.drop x.2.2.1.toNat).take x.2.1.length):Nat):Int)+((B10^x.2.1.length:Nat):Int)*x.1.getD (x.2.2.1.toNat+x.2.1.length) 0 - ((a0c B10 x.2.1*x.2.2.2.1.toNat:Nat):Int)
  some (decide (T/((B10^x.2.1.length:Nat):Int)<0),(x.1.take x.2.2.1.toNat++fd B10 x.2.1.length (T%((B10^x.2.1.length:Nat):Int)).toNat)++(T/((B10^x.2.1.length:Nat):Int))::x.1.drop (x.2.2.1.toNat+x.2.1.length+1),())
 else none
theorem e4q (us vs W:List Int) (j t:Nat) (hW:(us.drop j).take vs.length=W) (hl:j+vs.length<us.length) (hw:dig B10 W=true) (hv:dig B10 vs=true) (ht0:0<=us.getD (j+vs.length) 0) (ht1:us.getD (j+vs.length) 0<=1000000000) (hd1:(t:Int)<1000000000) (hbig:us.length<=1000000000000):
  P.b5m (vs.length+1) (us,(vs,((j:Int),((t:Int),()))))=some (decide (((((a0c B10 W:Nat):Int)+((B10^vs.length:Nat):Int)*us.getD (j+vs.length) 0 - ((a0c B10 vs*t:Nat):Int))/((B10^vs.length:Nat):Int))<0),(us.take j++fd B10 vs.length ((((a0c B10 W:Nat):Int)+((B10^vs.length:Nat):Int)*us.getD (j+vs.length) 0 - ((a0c B10 vs*t:Nat):Int))%((B10^vs.length:Nat):Int)).toNat)++((((a0c B10 W:Nat):Int)+((B10^vs.length:Nat):Int)*us.getD (j+vs.length) 0 - ((a0c B10 vs*t:Nat):Int))/((B10^vs.length:Nat):Int))::us.drop (j+vs.length+1),()):=by
 have hWg:∀i,i<vs.length->W.getD i 0=us.getD (j+i) 0:=by
  intro i hi;rw[<-hW,win_getD hi]
 have hWl:W.length=vs.length:=by rw[<-hW];simp;omega
 have htB:t<B10:=by show t<1000000000;omega
 unfold P.b5m;dsimp only;have key:=a0f (k:=vs.length+1) (b:=P.b0b) (n:=vs.length) (st:=fun i=>((i:Int),(vs.length:Int),vs,(us.take j++(b8n B10 t W vs i).1)++us.drop (j+i),(j:Int),(t:Int),((b8n B10 t W vs i).2:Int),vs,())) (F:=fun i=>some (decide (((((a0c B10 W:Nat):Int)+((B10^vs.length:Nat):Int)*us.getD (j+vs.length) 0 - ((a0c B10 vs*t:Nat):Int))/((B10^vs.length:Nat):Int))<0),(us.take j++fd B10 vs.length ((((a0c B10 W:Nat):Int)+((B10^vs.length:Nat):Int)*us.getD (j+vs.length) 0 - ((a0c B10 vs*t:Nat):Int))%((B10^vs.length:Nat):Int)).toNat)++((((a0c B10 W:Nat):Int)+((B10^vs.length:Nat):Int)*us.getD (j+vs.length) 0 - ((a0c B10 vs*t:Nat):Int))/((B10^vs.length:Nat):Int))::us.drop (j+vs.length+1),())) (fun i g hi hg=>by
  unfold P.b0b;dsimp only at hg ⊢;refine Eq.trans ?_ hg;clear hg;obtain⟨q1,q2,q3,q4⟩:=offUp_ok (t:=t) a0d htB hw hv i;have gx:=a1e (B:=B10) (by decide) hw i;have gy:=a1e (B:=B10) (by decide) hv i;have gx1:W.getD i 0<1000000000:=gx.2;have gy1:vs.getD i 0<1000000000:=gy.2;have gx0:=gx.1;have gy0:=gy.1;have hAl:(us.take j++(b8n B10 t W vs i).1).length=j+i:=by rw[List.length_append,q2,List.length_take];omega
  have hlen:((us.take j++(b8n B10 t W vs i).1)++us.drop (j+i)).length=us.length:=by rw[List.length_append,hAl,List.length_drop];omega
  have e1:(i:Int)<(vs.length:Int):=by omega
  have e2:(0:Int)<=(i:Int):=by omega
  have e3:(0:Int)<=((j+i:Nat):Int):=by omega
  have e4:((j+i:Nat):Int)<(us.length:Int):=by omega
  rw[hlen,<-Int.natCast_add,wr (x:=((j+i:Nat):Int)) (by omega) (by omega)];simp only[e1,e2,e3,e4,decide_true,if_true,Nat.zero_add,Int.toNat_natCast];rw[a2t (xs:=us) (i:=j+i) (by omega),b1l hAl];simp only[b2v hAl];rw[<-hWg i hi,b8n];dsimp only;generalize W.getD i 0=x at*;generalize vs.getD i 0=y at*;generalize b8n B10 t W vs i=p at*;obtain⟨pl,c0⟩:=p;dsimp only at*;obtain⟨Y,rfl⟩:∃Y:Nat,y=(Y:Int):=⟨y.toNat,by omega⟩
  rw[Int.toNat_natCast];have hYt:Y*t<=999999999*999999999:=Nat.mul_le_mul (by omega) (by omega);rw[<-Int.natCast_mul,wr (x:=((Y*t:Nat):Int)) (by omega) (by omega),Int.tmod_eq_emod_of_nonneg (by omega),Int.tdiv_eq_ediv_of_nonneg (by omega)];generalize Y*t=m at*;have e8:((m:Nat):Int)%1000000000=((m%B10:Nat):Int):=by
   show _=((m%1000000000:Nat):Int)
   omega
  have e9:((m:Nat):Int)/1000000000=((m/B10:Nat):Int):=by
   show _=((m/1000000000:Nat):Int)
   omega
  rw[e8,e9];have b1:m%B10<1000000000:=Nat.mod_lt _ (by decide);have b2:m/B10<=1000000000:=by
   show m/1000000000<=1000000000;omega
  generalize m%B10=lo at*;generalize m/B10=hi' at*;rw[wr (x:=x - (lo:Int)) (by omega) (by omega),wr (x:=x - (lo:Int) - (c0:Int)) (by omega) (by omega),wr (x:=x - (lo:Int) - (c0:Int)+1000000000) (by omega) (by omega),wr (x:=x - (lo:Int) - (c0:Int)+1000000000+1000000000) (by omega) (by omega),wr (x:=(hi':Int)) (by omega) (by omega),wr (x:=(hi':Int)+1) (by omega) (by omega),wr (x:=(hi':Int)+1+1) (by omega) (by omega),wr (x:=(i:Int)+1) (by omega) (by omega)];have eB:((B10:Nat):Int)=1000000000:=rfl;rw[eB,<-Nat.add_assoc j i 1,<-List.append_assoc (us.take j)]
  by_cases hn:x - (lo:Int) - (c0:Int)<0
  ·rw[if_pos (decide_eq_true hn),if_pos hn]
   by_cases hn2:x - (lo:Int) - (c0:Int)+1000000000<0
   ·rw[if_pos (decide_eq_true hn2),if_pos hn2,show x - (lo:Int) - (c0:Int)+1000000000+1000000000=(x - (lo:Int) - (c0:Int))%1000000000 by omega];rfl
   ·rw[if_neg (by simpa using hn2),if_neg hn2,show x - (lo:Int) - (c0:Int)+1000000000=(x - (lo:Int) - (c0:Int))%1000000000 by omega];rfl
  ·rw[if_neg (by simpa using hn),if_neg hn];have e11:(x - (lo:Int) - (c0:Int))%1000000000=x - (lo:Int) - (c0:Int):=by omega
   rw[e11];rfl) (fun g=>by
  unfold P.b0b;dsimp only;obtain⟨q1,q2,q3,q4⟩:=offUp_ok (t:=t) a0d htB hw hv vs.length;rw[List.take_length,<-hWl,List.take_length,hWl]at q3;have hAl:(us.take j++(b8n B10 t W vs vs.length).1).length=j+vs.length:=by rw[List.length_append,q2,List.length_take];omega
  have hlen:((us.take j++(b8n B10 t W vs vs.length).1)++us.drop (j+vs.length)).length=us.length:=by rw[List.length_append,hAl,List.length_drop];omega
  have e3:(0:Int)<=((j+vs.length:Nat):Int):=by omega
  have e4:((j+vs.length:Nat):Int)<(us.length:Int):=by omega
  have e5:¬((vs.length:Int)<(vs.length:Int)):=by omega
  rw[<-Int.natCast_add,wr (x:=((j+vs.length:Nat):Int)) (by omega) (by omega)];simp only[e3,e4,e5,decide_true,decide_false,if_true,Nat.zero_add,Int.toNat_natCast,List.length_set,hlen,Bool.false_eq_true,if_false];rw[a2t (xs:=us) (i:=j+vs.length) (by omega),b1l hAl,b2v hAl,List.append_assoc _ [_],List.singleton_append,b1l hAl];generalize b8n B10 t W vs vs.length=p at*;obtain⟨pl,c0⟩:=p;dsimp only at*;generalize us.getD (j+vs.length) 0=top at*;rw[wr (x:=top - (c0:Int)) (by omega) (by omega)];have hlt:=a1p q1;rw[q2]at hlt;have eT:((a0c B10 W:Nat):Int)+((B10^vs.length:Nat):Int)*top - ((a0c B10 vs*t:Nat):Int)=((a0c B10 pl:Nat):Int)+((B10^vs.length:Nat):Int)*(top - (c0:Int)):=by
   rw[Int.mul_sub,<-Int.natCast_mul];omega
  rw[eT,(b1x hlt _).1,(b1x hlt _).2,Int.toNat_natCast,<-fd_eq a0d q1 q2 rfl]) (by omega)
 have e0:(us.take j++(b8n B10 t W vs 0).1)++us.drop (j+0)=us:=by
  show(us.take j++[])++us.drop j=us;rw[List.append_nil,List.take_append_drop]
 rw[e0]at key;exact key
theorem S.d1o (x r) (h:S.a5f x=some r):∃k,P.b5m k x=some r:=by
 obtain⟨us,vs,j',d',u⟩:=x;unfold S.a5f at h;dsimp only at h;split at h
 case isFalse=>cases h
 rename_i hc;obtain⟨hj0,hl,hw,hv,ht0,ht1,hd0,hd1,hbig⟩:=hc;obtain⟨j,rfl⟩:∃d:Nat,j'=(d:Int):=⟨j'.toNat,by omega⟩
 obtain⟨t,rfl⟩:∃d:Nat,d'=(d:Int):=⟨d'.toNat,by omega⟩
 refine⟨vs.length+1,?_⟩;rw[<-h];exact e4q us vs _ j t rfl hl hw hv ht0 ht1 hd1 hbig
abbrev P.b0c (x1:Int×Int×List Int×List Int×Int×Int×List Int×Unit) (g2:Int×Int×List Int×List Int×Int×Int×List Int×Unit->Option (Unit×List Int×Unit)):Option (Unit×List Int×Unit):=
 (fun(a b e f:Int) (c d h:List Int)=>if decide (a<b)then if decide (0<=a)then if decide (a<(c.length:Int))then if decide (0<=(wrap .i64 (e+a)))then if decide ((wrap .i64 (e+a))<(d.length:Int))then if decide (0<=(wrap .i64 (e+a)))then if decide ((wrap .i64 (e+a))<(d.length:Int))then g2 (wrap .i64 (a+1),b,c,d.set (0+(Int.toNat (wrap .i64 (e+a)))) (Int.tmod (wrap .i64 ((wrap .i64 ((d.getD (0+(Int.toNat (wrap .i64 (e+a)))) 0)+(c.getD a.toNat 0)))+f)) 1000000000),e,wrap .i64 (Int.tdiv (wrap .i64 ((wrap .i64 ((d.getD (0+(Int.toNat (wrap .i64 (e+a)))) 0)+(c.getD a.toNat 0)))+f)) 1000000000),h,())else none else none else none else none else none else none else if decide (0<=(wrap .i64 (e+(h.length:Int))))then if decide ((wrap .i64 (e+(h.length:Int)))<(d.length:Int))then if decide (0<=(wrap .i64 (e+(h.length:Int))))then if decide ((wrap .i64 (e+(h.length:Int)))<(d.length:Int))then some ((),d.set (0+(Int.toNat (wrap .i64 (e+(h.length:Int))))) (wrap .i64 ((d.getD (0+(Int.toNat (wrap .i64 (e+(h.length:Int))))) 0)+f)),())else none else none else none else none) x1.1 x1.2.1 x1.2.2.2.2.1 x1.2.2.2.2.2.1 x1.2.2.1 x1.2.2.2.1 x1.2.2.2.2.2.2.1
def P.b5n (k:Nat) (x:List Int×List Int×Int×Unit):Option (Unit×List Int×Unit):=
 loopP P.b0c k (0,(x.2.1.length:Int),x.2.1,x.1,x.2.2.1,0,x.2.1,())
def S.a5g (x:((List Int)×((List Int)×(Int×Unit)))):(Option (Unit×((List Int)×Unit))):=
 if 0<=x.2.2.1/\x.2.2.1.toNat+x.2.1.length<x.1.length/\dig B10 ((x.1.drop x.2.2.1.toNat).take x.2.1.length)=true/\dig B10 x.2.1=true/\ -1000000000<=x.1.getD (x.2.2.1.toNat+x.2.1.length) 0/\x.1.getD (x.2.2.1.toNat+x.2.1.length) 0<=1000000000/\x.1.length<=1000000000000 then
  let T:Int:=((a0c B10 ((x.1.drop x.2.2.1.toNat).take x.2.1.length):Nat):Int)+((B10^x.2.1.length:Nat):Int)*x.1.getD (x.2.2.1.toNat+x.2.1.length) 0+((a0c B10 x.2.1:Nat):Int)
  some ((),(x.1.take x.2.2.1.toNat++fd B10 x.2.1.length (T%((B10^x.2.1.length:Nat):Int)).toNat)++(T/((B10^x.2.1.length:Nat):Int))::x.1.drop (x.2.2.1.toNat+x.2.1.length+1),())
 else none
theorem e4r (us vs W:List Int) (j:Nat) (hW:(us.drop j).take vs.length=W) (hl:j+vs.length<us.length) (hw:dig B10 W=true) (hv:dig B10 vs=true) (ht0: -1000000000<=us.getD (j+vs.length) 0) (ht1:us.getD (j+vs.length) 0<=1000000000) (hbig:us.length<=1000000000000):
  P.b5n (vs.length+1) (us,(vs,((j:Int),())))=some ((),(us.take j++fd B10 vs.length ((((a0c B10 W:Nat):Int)+((B10^vs.length:Nat):Int)*us.getD (j+vs.length) 0+((a0c B10 vs:Nat):Int))%((B10^vs.length:Nat):Int)).toNat)++((((a0c B10 W:Nat):Int)+((B10^vs.length:Nat):Int)*us.getD (j+vs.length) 0+((a0c B10 vs:Nat):Int))/((B10^vs.length:Nat):Int))::us.drop (j+vs.length+1),()):=by
 have hWg:∀i,i<vs.length->W.getD i 0=us.getD (j+i) 0:=by
  intro i hi;rw[<-hW,win_getD hi]
 have hWl:W.length=vs.length:=by rw[<-hW];simp;omega
 unfold P.b5n;dsimp only;have key:=a0f (k:=vs.length+1) (b:=P.b0c) (n:=vs.length) (st:=fun i=>((i:Int),(vs.length:Int),vs,(us.take j++(a1j B10 W vs i).1)++us.drop (j+i),(j:Int),((a1j B10 W vs i).2:Int),vs,())) (F:=fun i=>some ((),(us.take j++fd B10 vs.length ((((a0c B10 W:Nat):Int)+((B10^vs.length:Nat):Int)*us.getD (j+vs.length) 0+((a0c B10 vs:Nat):Int))%((B10^vs.length:Nat):Int)).toNat)++((((a0c B10 W:Nat):Int)+((B10^vs.length:Nat):Int)*us.getD (j+vs.length) 0+((a0c B10 vs:Nat):Int))/((B10^vs.length:Nat):Int))::us.drop (j+vs.length+1),())) (fun i g hi hg=>by
  unfold P.b0c;dsimp only at hg ⊢;refine Eq.trans ?_ hg;clear hg;obtain⟨q1,q2,q3,q4⟩:=b3o a0d hw hv i;have gx:=a1e (B:=B10) (by decide) hw i;have gy:=a1e (B:=B10) (by decide) hv i;have gx1:W.getD i 0<1000000000:=gx.2;have gy1:vs.getD i 0<1000000000:=gy.2;have gx0:=gx.1;have gy0:=gy.1;have hAl:(us.take j++(a1j B10 W vs i).1).length=j+i:=by rw[List.length_append,q2,List.length_take];omega
  have hlen:((us.take j++(a1j B10 W vs i).1)++us.drop (j+i)).length=us.length:=by rw[List.length_append,hAl,List.length_drop];omega
  have e1:(i:Int)<(vs.length:Int):=by omega
  have e2:(0:Int)<=(i:Int):=by omega
  have e3:(0:Int)<=((j+i:Nat):Int):=by omega
  have e4:((j+i:Nat):Int)<(us.length:Int):=by omega
  rw[hlen,<-Int.natCast_add,wr (x:=((j+i:Nat):Int)) (by omega) (by omega)];simp only[e1,e2,e3,e4,decide_true,if_true,Nat.zero_add,Int.toNat_natCast];rw[a2t (xs:=us) (i:=j+i) (by omega),b1l hAl];simp only[b2v hAl];rw[<-hWg i hi,a1j];dsimp only;generalize W.getD i 0=x at*;generalize vs.getD i 0=y at*;generalize a1j B10 W vs i=p at*;obtain⟨pl,c0⟩:=p;dsimp only at*;obtain⟨X,rfl⟩:∃Y:Nat,x=(Y:Int):=⟨x.toNat,by omega⟩
  obtain⟨Y,rfl⟩:∃Y:Nat,y=(Y:Int):=⟨y.toNat,by omega⟩
  rw[Int.toNat_natCast,Int.toNat_natCast];rw[wr (x:=(X:Int)+(Y:Int)) (by omega) (by omega),wr (x:=(X:Int)+(Y:Int)+(c0:Int)) (by omega) (by omega),Int.tmod_eq_emod_of_nonneg (by omega),Int.tdiv_eq_ediv_of_nonneg (by omega)];have e8:((X:Int)+(Y:Int)+(c0:Int))%1000000000=(((c0+X+Y)%B10:Nat):Int):=by
   show _=(((c0+X+Y)%1000000000:Nat):Int)
   omega
  have e9:((X:Int)+(Y:Int)+(c0:Int))/1000000000=(((c0+X+Y)/B10:Nat):Int):=by
   show _=(((c0+X+Y)/1000000000:Nat):Int)
   omega
  have b2:(c0+X+Y)/B10<=1000000000:=by
   show(c0+X+Y)/1000000000<=1000000000;omega
  rw[e8,e9,wr (x:=(((c0+X+Y)/B10:Nat):Int)) (by omega) (by omega),wr (x:=(i:Int)+1) (by omega) (by omega),<-Nat.add_assoc j i 1,<-List.append_assoc (us.take j)];rfl) (fun g=>by
  unfold P.b0c;dsimp only;obtain⟨q1,q2,q3,q4⟩:=b3o a0d hw hv vs.length;rw[List.take_length,<-hWl,List.take_length,hWl]at q3;have hAl:(us.take j++(a1j B10 W vs vs.length).1).length=j+vs.length:=by rw[List.length_append,q2,List.length_take];omega
  have hlen:((us.take j++(a1j B10 W vs vs.length).1)++us.drop (j+vs.length)).length=us.length:=by rw[List.length_append,hAl,List.length_drop];omega
  have e3:(0:Int)<=((j+vs.length:Nat):Int):=by omega
  have e4:((j+vs.length:Nat):Int)<(us.length:Int):=by omega
  have e5:¬((vs.length:Int)<(vs.length:Int)):=by omega
  rw[<-Int.natCast_add,wr (x:=((j+vs.length:Nat):Int)) (by omega) (by omega)];simp only[e3,e4,e5,decide_true,decide_false,if_true,Nat.zero_add,Int.toNat_natCast,hlen,Bool.false_eq_true,if_false];rw[a2t (xs:=us) (i:=j+vs.length) (by omega),b1l hAl,b2v hAl,List.append_assoc _ [_],List.singleton_append];generalize a1j B10 W vs vs.length=p at*;obtain⟨pl,c0⟩:=p;dsimp only at*;generalize us.getD (j+vs.length) 0=top at*;rw[wr (x:=top+(c0:Int)) (by omega) (by omega)];have hlt:=a1p q1;rw[q2]at hlt;have eT:((a0c B10 W:Nat):Int)+((B10^vs.length:Nat):Int)*top+((a0c B10 vs:Nat):Int)=((a0c B10 pl:Nat):Int)+((B10^vs.length:Nat):Int)*(top+(c0:Int)):=by
   rw[Int.mul_add,<-Int.natCast_mul];omega
  rw[eT,(b1x hlt _).1,(b1x hlt _).2,Int.toNat_natCast,<-fd_eq a0d q1 q2 rfl]) (by omega)
 have e0:(us.take j++(a1j B10 W vs 0).1)++us.drop (j+0)=us:=by
  show(us.take j++[])++us.drop j=us;rw[List.append_nil,List.take_append_drop]
 rw[e0]at key;exact key
theorem S.d1p (x r) (h:S.a5g x=some r):∃k,P.b5n k x=some r:=by
 obtain⟨us,vs,j',u⟩:=x;unfold S.a5g at h;dsimp only at h;split at h
 case isFalse=>cases h
 rename_i hc;obtain⟨hj0,hl,hw,hv,ht0,ht1,hbig⟩:=hc;obtain⟨j,rfl⟩:∃d:Nat,j'=(d:Int):=⟨j'.toNat,by omega⟩
 refine⟨vs.length+1,?_⟩;rw[<-h];exact e4r us vs _ j rfl hl hw hv ht0 ht1 hbig
end Go.Cm
end
