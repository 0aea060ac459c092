import Derived.Test.YtdpljomfkoojnaaGreatDoorCmZI
import Derived.Test.YtdpljomfkoojnaaGreatDoorCmXz
import Derived.Lib.Bits
import Derived.Lib.IndexMore
import Derived.Lib.ParseIntB
import Derived.Lib.Repeat
import Derived.Lib.Strings
set_option linter.unusedVariables false
set_option maxRecDepth 100000
noncomputable section
namespace Go.Cm
abbrev RB:=Bool×((List Int)×(List Int))
open IntKind (wrap)
abbrev P.b1t (x1:Int×List ByteArray×Int×Unit) (g2:Int×List ByteArray×Int×Unit->Option (Int×Unit)):Option (Int×Unit):=
 if decide (x1.1<(x1.2.1.length:Int))then if decide (0<=x1.1)then if decide (x1.1<(x1.2.1.length:Int))then if decide ((wrap .i64 (x1.2.2.1 - (ByteArray.size (x1.2.1.getD x1.1.toNat (bs [])):Int)))<0)then some ((-1:Int),())else g2 (wrap .i64 (x1.1+1),x1.2.1,wrap .i64 (x1.2.2.1 - (ByteArray.size (x1.2.1.getD x1.1.toNat (bs [])):Int)),())else none else none else some (x1.2.2.1,())
def P.c2b (k:Nat) (x:List ByteArray×Int×Unit):Option (Int×Unit):=
 if decide ((wrap .i64 (x.2.1 - (x.1.length:Int)))<0)then some ((-1:Int),())else loopP P.b1t k (0,x.1,wrap .i64 (x.2.1 - (x.1.length:Int)),())
def f7e:List ByteArray->Int->Int
 | [],l=>l
 |x::xs,l=>if l - (x.size:Int)<0 then -1 else f7e xs (l - (x.size:Int))
def szS (xs:List ByteArray) (left:Int):Int:=if left - (xs.length:Int)<0 then -1 else f7e xs (left - (xs.length:Int))
theorem d8q:∀(xs:List ByteArray) (l:Int),0<=l->f7e xs l<=l/\ -1<=f7e xs l
 | [],l,h=>by simp [f7e];omega
 |x::xs,l,h=>by
  simp only[f7e];split
  ·omega
  ·have:=d8q xs (l - (x.size:Int)) (by omega);omega
theorem f7f (xs:List ByteArray) (l:Int) (h:0<=l):szS xs l<=l/\ -1<=szS xs l:=by
 unfold szS;split
 ·omega
 ·have:=d8q xs (l - (xs.length:Int)) (by omega);omega
theorem g8w (xs:List ByteArray) (l:Int) (h:0<=szS xs l):(xs.length:Int)<=l:=by
 unfold szS at h;split at h<;>omega
abbrev f7g (xs:List ByteArray):Prop:=xs.length<=9223372036854775807/\∀x∈xs,x.size<=9223372036854775807
open Classical in
def S.b0x (x:((List ByteArray)×(Int×Unit))):(Option (Int×Unit)):=if f7g x.1/\0<=x.2.1/\x.2.1<=1000000 then some (szS x.1 x.2.1,())else none
theorem S.d4w (x r) (h:S.b0x x=some r):∃k,P.c2b k x=some r:=by
 obtain⟨xs,left,u⟩:=x;unfold S.b0x at h;split at h
 case isFalse=>cases h
 rename_i hc;obtain⟨⟨hl,hs⟩,h0,h1⟩:=hc;cases h;refine⟨xs.length+1,?_⟩;unfold P.c2b szS;dsimp only at hl hs h0 h1 ⊢;rw[wr (by omega) (by omega)]
 by_cases hn:left - (xs.length:Int)<0
 ·simp [hn]
 ·simp only[hn,decide_false,Bool.false_eq_true,if_false];have key:∀m i k l,i+m=xs.length->m<k->0<=l->l<=1000000->loopP P.b1t k ((i:Int),xs,l,())=some (f7e (xs.drop i) l,()):=by
   intro m
   induction m with
   |zero=>
    intro i k l hi hk h0 h1;cases k with
    |zero=>omega
    |succ k=>
     have:i=xs.length:=by omega
     subst this;simp [a0j,P.b1t,f7e]
   |succ m ih=>
    intro i k l hi hk h0 h1;cases k with
    |zero=>omega
    |succ k=>
     have hi':i<xs.length:=by omega
     have hsz:=hs xs[i] (List.getElem_mem hi');rw[a0j];unfold P.b1t;rw[List.drop_eq_getElem_cons hi'];dsimp only;rw[a0n xs i _ hi',wr (by omega) (by omega),wr (x:=(i:Int)+1) (by omega) (by omega)];have e1:(i:Int)<(xs.length:Int):=by omega
     have e2:(0:Int)<=(i:Int):=by omega
     simp only[e1,e2,decide_true,if_true,f7e]
     by_cases hq:l - (xs[i].size:Int)<0
     ·simp [hq]
     ·simp only[hq,decide_false,Bool.false_eq_true,if_false];have:=ih (i+1) k (l - (xs[i].size:Int)) (by omega) (by omega) (by omega) (by omega);rw[<-this];rfl
  have:=key xs.length 0 (xs.length+1) (left - (xs.length:Int)) (by omega) (by omega) (by omega) (by omega);rw[List.drop_zero]at this;exact this
abbrev P.a9i (x1:Int×List (List ByteArray)×Int×Unit) (g2:Int×List (List ByteArray)×Int×Unit->Option (Int×Unit)):Option (Int×Unit):=
 if decide (x1.1<(x1.2.1.length:Int))then if decide (0<=x1.1)then if decide (x1.1<(x1.2.1.length:Int))then(S.b0x (x1.2.1.getD x1.1.toNat [],x1.2.2.1,())).bind fun y3=>if decide (y3.1<0)then some ((-1:Int),())else g2 (wrap .i64 (x1.1+1),x1.2.1,y3.1,())else none else none else some (x1.2.2.1,())
def P.b9e (k:Nat) (x:List (List ByteArray)×Int×Unit):Option (Int×Unit):=
 if decide ((wrap .i64 (x.2.1 - (x.1.length:Int)))<0)then some ((-1:Int),())else loopP P.a9i k (0,x.1,wrap .i64 (x.2.1 - (x.1.length:Int)),())
def c3i:List (List ByteArray)->Int->Int
 | [],l=>l
 |x::xs,l=>if szS x l<0 then -1 else c3i xs (szS x l)
def sz2 (xs:List (List ByteArray)) (left:Int):Int:=if left - (xs.length:Int)<0 then -1 else c3i xs (left - (xs.length:Int))
theorem f2h:∀(xs:List (List ByteArray)) (l:Int),0<=l->c3i xs l<=l/\ -1<=c3i xs l/\(0<=c3i xs l->∀x∈xs,(x.length:Int)<=l)
 | [],l,h=>by simp [c3i];omega
 |x::xs,l,h=>by
  have a:=f7f x l h;simp only[c3i];split
  ·exact⟨by omega,by omega,fun h0=>by omega⟩
  ·obtain⟨b1,b2,b3⟩:=f2h xs (szS x l) (by omega);refine⟨by omega,b2,fun h0 y hy=> ?_⟩;rcases List.mem_cons.1 hy with rfl|hy
   ·exact g8w y l (by omega)
   ·have:=b3 h0 y hy;omega
theorem h2t (xs:List (List ByteArray)) (l:Int) (h:0<=l):sz2 xs l<=l/\ -1<=sz2 xs l/\(0<=sz2 xs l->(xs.length:Int)<=l/\∀x∈xs,(x.length:Int)<=l):=by
 unfold sz2;split
 ·exact⟨by omega,by omega,fun h0=>by omega⟩
 ·obtain⟨a,b,c⟩:=f2h xs (l - (xs.length:Int)) (by omega);refine⟨by omega,b,fun h0=>⟨by omega,fun x hx=> ?_⟩⟩;have:=c h0 x hx;omega
abbrev h4w (xs:List (List ByteArray)):Prop:=xs.length<=9223372036854775807/\∀x∈xs,f7g x
open Classical in
def S.a8r (x:((List (List ByteArray))×(Int×Unit))):(Option (Int×Unit)):=if h4w x.1/\x.2.1<=1000000/\(0<=x.2.1\/ -1000000000000000<=x.2.1/\x.1.length<=1000000000000000)then some (sz2 x.1 x.2.1,())else none
theorem S.d0m (x r) (h:S.a8r x=some r):∃k,P.b9e k x=some r:=by
 obtain⟨xs,left,u⟩:=x;unfold S.a8r at h;split at h
 case isFalse=>cases h
 rename_i hc;obtain⟨⟨hl,hs⟩,h1,h0⟩:=hc;cases h;refine⟨xs.length+1,?_⟩;unfold P.b9e sz2;dsimp only at hl hs h0 h1 ⊢;rw[wr (by omega) (by omega)]
 by_cases hn:left - (xs.length:Int)<0
 ·simp [hn]
 ·simp only[hn,decide_false,Bool.false_eq_true,if_false];have key:∀m i k l,i+m=xs.length->m<k->0<=l->l<=1000000->loopP P.a9i k ((i:Int),xs,l,())=some (c3i (xs.drop i) l,()):=by
   intro m
   induction m with
   |zero=>
    intro i k l hi hk h0 h1;cases k with
    |zero=>omega
    |succ k=>
     have:i=xs.length:=by omega
     subst this;simp [a0j,P.a9i,c3i]
   |succ m ih=>
    intro i k l hi hk h0 h1;cases k with
    |zero=>omega
    |succ k=>
     have hi':i<xs.length:=by omega
     have hsz:=hs xs[i] (List.getElem_mem hi');rw[a0j];unfold P.a9i;rw[List.drop_eq_getElem_cons hi'];dsimp only;have e1:(i:Int)<(xs.length:Int):=by omega
     have e2:(0:Int)<=(i:Int):=by omega
     have a:=f7f xs[i] l h0;have es:S.b0x (xs[i],l,())=some (szS xs[i] l,()):=by
      unfold S.b0x;rw[if_pos ⟨hsz,h0,h1⟩]
     rw[a0n xs i _ hi',wr (x:=(i:Int)+1) (by omega) (by omega),es];simp only[e1,e2,decide_true,if_true,c3i,Option.bind_some]
     by_cases hq:szS xs[i] l<0
     ·simp [hq]
     ·simp only[hq,decide_false,Bool.false_eq_true,if_false];have:=ih (i+1) k (szS xs[i] l) (by omega) (by omega) (by omega) (by omega);rw[<-this];rfl
  have:=key xs.length 0 (xs.length+1) (left - (xs.length:Int)) (by omega) (by omega) (by omega) (by omega);rw[List.drop_zero]at this;exact this
def P.c3j (k:Nat) (x:List (List ByteArray)×Int×Unit):Option (Int×Unit):=
 (S.a8r (x.1,x.2.1,())).bind fun y0=>if decide (y0.1<0)then some ((-1:Int),())else some (y0.1,())
def S.b9f (x:((List (List ByteArray))×(Int×Unit))):(Option (Int×Unit)):=P.c3j 0 x
theorem S.e3c (x r) (h:S.b9f x=some r):∃k,P.c3j k x=some r:=⟨0,h⟩
abbrev P.b1u (x1:Int×List ByteArray×List ByteArray×Unit) (g2:Int×List ByteArray×List ByteArray×Unit->Option (Bool×Unit)):Option (Bool×Unit):=
 if decide (x1.1<(x1.2.1.length:Int))then if decide (0<=x1.1)then if decide (x1.1<(x1.2.1.length:Int))then if decide (0<=x1.1)then if decide (x1.1<(x1.2.2.1.length:Int))then if ! ((ByteArray.toList (x1.2.1.getD x1.1.toNat (bs [])))==(ByteArray.toList (x1.2.2.1.getD x1.1.toNat (bs []))))then some (false,())else g2 (wrap .i64 (x1.1+1),x1.2.1,x1.2.2.1,())else none else none else none else none else some (true,())
def P.c2c (k:Nat) (x:List ByteArray×List ByteArray×Unit):Option (Bool×Unit):=
 if(x.1.length:Int) != (x.2.1.length:Int)then some (false,())else loopP P.b1u k (0,x.1,x.2.1,())
def S.a5g (x:((List ByteArray)×((List ByteArray)×Unit))):(Option (Bool×Unit)):=if x.1.length<=9223372036854775807 then some (b3a x.1 x.2.1,())else none
theorem S.d4x (x r) (h:S.a5g x=some r):∃k,P.c2c k x=some r:=by
 obtain⟨xs,ys,u⟩:=x;unfold S.a5g at h;dsimp only at h;split at h
 case isFalse=>cases h
 rename_i hc;cases h;refine⟨xs.length+1,?_⟩;unfold P.c2c;dsimp only
 by_cases hl:xs.length=ys.length
 ·have e0:((xs.length:Int) != (ys.length:Int))=false:=by simp [hl]
  rw[if_neg (by rw[e0];simp)];have:=a0f (b:=P.b1u) (n:=xs.length) (st:=fun i=>((i:Int),xs,ys,())) (F:=fun i=>some (b3a (xs.drop i) (ys.drop i),())) (fun i g hi hg=>by
   have hy:i<ys.length:=by omega
   unfold P.b1u;dsimp only at hg ⊢;have e1:(i:Int)<(xs.length:Int):=by omega
   have e1':(i:Int)<(ys.length:Int):=by omega
   have e2:(0:Int)<=(i:Int):=by omega
   simp only[e1,e1',e2,decide_true,if_true];rw[a0n xs i _ hi,a0n ys i _ hy,wr (x:=(i:Int)+1) (by omega) (by omega),e3p hi hy]
   by_cases hq:(xs[i].toList==ys[i].toList)=true
   ·simp only[hq,Bool.not_true,Bool.false_eq_true,if_false,Bool.true_and];exact hg
   ·have hq':(xs[i].toList==ys[i].toList)=false:=by simpa using hq
    simp only[hq',Bool.not_false,if_true,Bool.false_and]) (fun g=>by
   unfold P.b1u;have e1:¬((xs.length:Int)<(xs.length:Int)):=by omega
   simp only[e1,decide_false,Bool.false_eq_true,if_false];rw[List.drop_length,hl,List.drop_length];rfl) (Nat.lt_succ_self _)
  simpa using this
 ·rw[if_pos (by simp;omega),e9b hl]
abbrev P.a9j (x1:Int×List (List ByteArray)×List (List ByteArray)×Unit) (g2:Int×List (List ByteArray)×List (List ByteArray)×Unit->Option (Bool×Unit)):Option (Bool×Unit):=
 if decide (x1.1<(x1.2.1.length:Int))then if decide (0<=x1.1)then if decide (x1.1<(x1.2.1.length:Int))then if decide (0<=x1.1)then if decide (x1.1<(x1.2.2.1.length:Int))then(S.a5g (x1.2.1.getD x1.1.toNat [],x1.2.2.1.getD x1.1.toNat [],())).bind fun y3=>if !y3.1 then some (false,())else g2 (wrap .i64 (x1.1+1),x1.2.1,x1.2.2.1,())else none else none else none else none else some (true,())
def P.b9g (k:Nat) (x:List (List ByteArray)×List (List ByteArray)×Unit):Option (Bool×Unit):=
 if(x.1.length:Int) != (x.2.1.length:Int)then some (false,())else loopP P.a9j k (0,x.1,x.2.1,())
def g7e (xs ys:List (List ByteArray)):Bool:=xs.map (fun r=>r.map ByteArray.toList)==ys.map (fun r=>r.map ByteArray.toList)
theorem e3d (xs:List (List ByteArray)):g7e xs xs=true:=by simp [g7e]
theorem g3h {xs ys:List (List ByteArray)} (h:xs.length≠ys.length):g7e xs ys=false:=by
 unfold g7e;rw[beq_eq_false_iff_ne];intro e;have:=congrArg List.length e;simp at this;exact h this
theorem f7h {xs ys:List (List ByteArray)} {i:Nat} (hx:i<xs.length) (hy:i<ys.length):g7e (xs.drop i) (ys.drop i)=(b3a xs[i] ys[i]&&g7e (xs.drop (i+1)) (ys.drop (i+1))):=by
 rw[List.drop_eq_getElem_cons hx,List.drop_eq_getElem_cons hy];rfl
open Classical in
def S.a6e (x:((List (List ByteArray))×((List (List ByteArray))×Unit))):(Option (Bool×Unit)):=if x.1.length<=9223372036854775807/\∀r∈x.1,r.length<=9223372036854775807 then some (g7e x.1 x.2.1,())else none
theorem S.d0n (x r) (h:S.a6e x=some r):∃k,P.b9g k x=some r:=by
 obtain⟨xs,ys,u⟩:=x;unfold S.a6e at h;dsimp only at h;split at h
 case isFalse=>cases h
 rename_i hc;obtain⟨hc,hr⟩:=hc;cases h;refine⟨xs.length+1,?_⟩;unfold P.b9g;dsimp only
 by_cases hl:xs.length=ys.length
 ·have e0:((xs.length:Int) != (ys.length:Int))=false:=by simp [hl]
  rw[if_neg (by rw[e0];simp)];have:=a0f (b:=P.a9j) (n:=xs.length) (st:=fun i=>((i:Int),xs,ys,())) (F:=fun i=>some (g7e (xs.drop i) (ys.drop i),())) (fun i g hi hg=>by
   have hy:i<ys.length:=by omega
   unfold P.a9j;dsimp only at hg ⊢;have e1:(i:Int)<(xs.length:Int):=by omega
   have e1':(i:Int)<(ys.length:Int):=by omega
   have e2:(0:Int)<=(i:Int):=by omega
   have es:S.a5g (xs[i],ys[i],())=some (b3a xs[i] ys[i],()):=by simp [S.a5g,hr xs[i] (List.getElem_mem hi)]
   simp only[e1,e1',e2,decide_true,if_true];rw[a0n xs i _ hi,a0n ys i _ hy,wr (x:=(i:Int)+1) (by omega) (by omega),f7h hi hy,es,Option.bind_some];cases hq:b3a xs[i] ys[i]
   ·simp
   ·simp only[Bool.not_true,Bool.false_eq_true,if_false,Bool.true_and];exact hg) (fun g=>by
   unfold P.a9j;have e1:¬((xs.length:Int)<(xs.length:Int)):=by omega
   simp only[e1,decide_false,Bool.false_eq_true,if_false];rw[List.drop_length,hl,List.drop_length];rfl) (Nat.lt_succ_self _)
  simpa using this
 ·rw[if_pos (by simp;omega),g3h hl]
def P.c3k (k:Nat) (x:List (List ByteArray)×List (List ByteArray)×Unit):Option (Bool×Unit):=
 (S.a6e (x.1,x.2.1,())).bind fun y0=>if !y0.1 then some (false,())else some (true,())
def S.b4o (x:((List (List ByteArray))×((List (List ByteArray))×Unit))):(Option (Bool×Unit)):=P.c3k 0 x
theorem S.e3e (x r) (h:S.b4o x=some r):∃k,P.c3k k x=some r:=⟨0,h⟩
def P.a8s (k:Nat) (x:Int×Unit):Option (Int×Unit):=
 if(Int.tmod x.1 6)==5 then some (0,())else if(Int.tmod x.1 3)==0 then some (1,())else some (x.1,())
def S.a1y (x:(Int×Unit)):(Option (Int×Unit)):=P.a8s 0 x
theorem S.d0o (x r) (h:S.a1y x=some r):∃k,P.a8s k x=some r:=⟨0,h⟩
def P.a9k (k:Nat) (x:(List ByteArray×Nat)×(List ByteArray×Nat)×Unit):Option (Bool×Unit):=
 (S.a1y (((x.2.1.2:Nat):Int),())).bind fun y0=>if((x.1.2:Nat):Int)==((x.2.1.2:Nat):Int)then if decide (0<=(wrap .i64 (((x.2.1.2:Nat):Int)+y0.1)))then if decide ((wrap .i64 (((x.2.1.2:Nat):Int)+y0.1))<=(x.1.1.length:Int))then if decide (0<=(wrap .i64 (((x.2.1.2:Nat):Int)+y0.1)))then if decide (0<=(wrap .i64 (((x.2.1.2:Nat):Int)+y0.1)))then if decide ((wrap .i64 (((x.2.1.2:Nat):Int)+y0.1))<=(x.2.1.1.length:Int))then if decide (0<=(wrap .i64 (((x.2.1.2:Nat):Int)+y0.1)))then(S.a5g (seen x.1.1 0 ((Int.toNat (wrap .i64 (((x.2.1.2:Nat):Int)+y0.1))) - 0),seen x.2.1.1 0 ((Int.toNat (wrap .i64 (((x.2.1.2:Nat):Int)+y0.1))) - 0),())).bind fun y1=>some (y1.1,())else none else none else none else none else none else none else some (false,())
def S.a6f (x:(((List ByteArray)×Nat)×(((List ByteArray)×Nat)×Unit))):(Option (Bool×Unit)):=P.a9k 0 x
theorem S.c3l (x r) (h:S.a6f x=some r):∃k,P.a9k k x=some r:=⟨0,h⟩
theorem f7i (n:Nat):S.a1y ((n:Int),())=some (rb n,()):=by
 unfold S.a1y P.a8s rb;simp only[beq_iff_eq];split
 ·rfl
 ·split<;>rfl
theorem e3f (xs ys:List ByteArray) (h:xs.length<=9223372036854775807):S.a5g (xs,ys,())=some (b3a xs ys,()):=by simp [S.a5g,h]
theorem f7j (xs:List ByteArray):tos a4g false xs=(xs++List.replicate (rb xs.length).toNat a4g,xs.length):=by simp [tos]
theorem c8k (xs:List ByteArray) (h:xs.length<=1000000):S.a6f (((tos a4g false xs).1,(tos a4g false xs).2),((tos a4g false xs).1,(tos a4g false xs).2),())=some (true,()):=by
 rw[f7j];have hr:=g3r xs.length;unfold S.a6f P.a9k;dsimp only;rw[f7i,Option.bind_some,wr (by omega) (by omega)];have hl:((xs++List.replicate (rb xs.length).toNat a4g).length:Int)=(xs.length:Int)+rb xs.length:=by
  rw[List.length_append,List.length_replicate];omega
 have e1:(0:Int)<=(xs.length:Int)+rb xs.length:=by omega
 have e2:(xs.length:Int)+rb xs.length<=(xs.length:Int)+rb xs.length:=by omega
 simp only[hl,e1,e2,decide_true,if_true,beq_self_eq_true];rw[e3f _ _ (by simp [seen];omega),e3o,Option.bind_some]
abbrev l_intactStringSS.A:=Int×(List (List ByteArray×Nat)×Nat)×(List (List ByteArray×Nat)×Nat)×Int×Unit
abbrev P.a5h (x2:l_intactStringSS.A) (g3:l_intactStringSS.A->Option (Bool×Unit)):Option (Bool×Unit):=
 (fun(a d:Int) (b c:(List (List ByteArray×Nat)×Nat))=>if decide (a<((b.2:Nat):Int))then if decide (0<=a)then if decide (a<((c.2:Nat):Int))then if decide (0<=a)then if decide (a<((b.2:Nat):Int))then(S.a6f (((c.1.getD a.toNat (([]:List ByteArray),0)).1,(c.1.getD a.toNat (([]:List ByteArray),0)).2),((b.1.getD a.toNat (([]:List ByteArray),0)).1,(b.1.getD a.toNat (([]:List ByteArray),0)).2),())).bind fun y4=>if !y4.1 then some (false,())else g3 (wrap .i64 (a+1),(b.1,b.2),(c.1,c.2),d,())else none else none else none else none else if decide (0<=d)then if decide (d<=(c.1.length:Int))then if decide (0<=((b.2:Nat):Int))then if decide (((b.2:Nat):Int)<=d)then if decide (0<=d)then if decide (d<=(b.1.length:Int))then if decide (0<=((b.2:Nat):Int))then if decide (((b.2:Nat):Int)<=d)then(S.a6e (List.map (fun(y5:List ByteArray×Nat)=>List.map (fun(y6:ByteArray)=>y6) (List.take y5.2 y5.1)) (seen c.1 (Int.toNat ((b.2:Nat):Int)) (d.toNat - (Int.toNat ((b.2:Nat):Int)))),List.map (fun(y7:List ByteArray×Nat)=>List.map (fun(y8:ByteArray)=>y8) (List.take y7.2 y7.1)) (seen b.1 (Int.toNat ((b.2:Nat):Int)) (d.toNat - (Int.toNat ((b.2:Nat):Int)))),())).bind fun y9=>some (y9.1,())else none else none else none else none else none else none else none else none) x2.1 x2.2.2.2.1 x2.2.1 x2.2.2.1
def P.b2y (k:Nat) (x:(List (List ByteArray×Nat)×Nat)×(List (List ByteArray×Nat)×Nat)×Unit):Option (Bool×Unit):=
 (S.a1y (((x.2.1.2:Nat):Int),())).bind fun y0=>if((x.1.2:Nat):Int) != ((x.2.1.2:Nat):Int)then some (false,())else loopP P.a5h k (0,(x.2.1.1,x.2.1.2),(x.1.1,x.1.2),wrap .i64 (((x.2.1.2:Nat):Int)+y0.1),())
open Classical in
def S.a4h (x:(((List ((List ByteArray)×Nat))×Nat)×(((List ((List ByteArray)×Nat))×Nat)×Unit))):(Option (Bool×Unit)):=if ∃xs,h0k xs/\x=(d0a false xs,d0a false xs,())then some (true,())else none
theorem d7a (xs:List (List ByteArray)):d0a false xs=(xs.map (tos a4g false)++List.replicate (rb xs.length).toNat b5w,xs.length):=by simp [d0a]
theorem S.c2d (x r) (h:S.a4h x=some r):∃k,P.b2y k x=some r:=by
 unfold S.a4h at h;split at h
 case isFalse=>cases h
 rename_i hc;cases h;obtain⟨xs,⟨hl,hr⟩,rfl⟩:=hc;refine⟨xs.length+1,?_⟩;have hb:=g3r xs.length;rw[d7a];unfold P.b2y;dsimp only;rw[f7i,Option.bind_some,wr (by omega) (by omega)];rw[if_neg (by simp)];generalize hA:xs.map (tos a4g false)++List.replicate (rb xs.length).toNat b5w=A;have hAl:(A.length:Int)=(xs.length:Int)+rb xs.length:=by
  rw[<-hA,List.length_append,List.length_map,List.length_replicate];omega
 have hget:∀i (hi:i<xs.length),A.getD i ([],0)=tos a4g false xs[i]:=by
  intro i hi;rw[<-hA,List.getD_eq_getElem?_getD,List.getElem?_append_left (by simpa using hi)];simp [hi]
 have:=a0f (k:=xs.length+1) (b:=P.a5h) (n:=xs.length) (st:=fun i=>((i:Int),(A,xs.length),(A,xs.length),(xs.length:Int)+rb xs.length,())) (F:=fun i=>some (true,())) (fun i g hi hg=>by
  unfold P.a5h;dsimp only at hg ⊢;have e1:(i:Int)<(xs.length:Int):=by omega
  have e2:(0:Int)<=(i:Int):=by omega
  simp only[e1,e2,decide_true,if_true,Int.toNat_natCast,hget i hi];rw[c8k xs[i] (hr _ (List.getElem_mem hi)),wr (x:=(i:Int)+1) (by omega) (by omega),Option.bind_some];simp only[Bool.not_true,Bool.false_eq_true,if_false];exact hg) (fun g=>by
  unfold P.a5h;dsimp only;have e1:¬((xs.length:Int)<(xs.length:Int)):=by omega
  have e2:(0:Int)<=(xs.length:Int)+rb xs.length:=by omega
  have e3:(xs.length:Int)+rb xs.length<=(xs.length:Int)+rb xs.length:=by omega
  have e4:(0:Int)<=(xs.length:Int):=by omega
  have e5:(xs.length:Int)<=(xs.length:Int)+rb xs.length:=by omega
  simp only[e1,hAl,e2,e3,e4,e5,decide_true,decide_false,if_true,Bool.false_eq_true,if_false];have hs:seen A (Int.toNat (xs.length:Int)) (Int.toNat ((xs.length:Int)+rb xs.length) - Int.toNat (xs.length:Int))=List.replicate (rb xs.length).toNat b5w:=by
   unfold seen;rw[<-hA];have:Int.toNat (xs.length:Int)=(xs.map (tos a4g false)).length:=by simp
   rw[this,List.drop_left];apply List.take_of_length_le;simp;omega
  rw[hs];unfold S.a6e;rw[if_pos,e3d]
  ·rfl
  ·refine⟨by simp;omega,fun r hr=> ?_⟩;simp only[List.map_replicate,List.mem_replicate]at hr;rw[hr.2];simp [b5w]) (by omega)
 exact this
def P.b3k (k:Nat) (x:(List (List ByteArray×Nat)×Nat)×(List (List ByteArray×Nat)×Nat)×Unit):Option (Bool×Unit):=
 (S.a4h ((x.1.1,x.1.2),(x.2.1.1,x.2.1.2),())).bind fun y0=>if !y0.1 then some (false,())else some (true,())
def S.a9l (x:(((List ((List ByteArray)×Nat))×Nat)×(((List ((List ByteArray)×Nat))×Nat)×Unit))):(Option (Bool×Unit)):=P.b3k 0 x
theorem S.c8l (x r) (h:S.a9l x=some r):∃k,P.b3k k x=some r:=⟨0,h⟩
abbrev P.b3l (x1:Int×ByteArray×Unit) (g2:Int×ByteArray×Unit->Option (ByteArray×Unit)):Option (ByteArray×Unit):=
 if decide (x1.1>0)then if decide (((ByteArray.size (b9k [wrap .u8 (wrap .i64 (48+(Int.tmod x1.1 10)))]))+x1.2.1.size)<=9223372036854775807)then g2 (wrap .i64 (Int.tdiv x1.1 10),(b9k [wrap .u8 (wrap .i64 (48+(Int.tmod x1.1 10)))])++x1.2.1,())else none else if decide ((1+x1.2.1.size)<=9223372036854775807)then some ((bs [109])++x1.2.1,())else none
def P.c0t (k:Nat) (x:Int×Unit):Option (ByteArray×Unit):=
 if decide (x.1<=0)then some ((bs [109,48]),())else loopP P.b3l k (x.1,bs [],())
theorem f7k:∀(k:Nat) (n:Int) (t:ByteArray),0<=n->n<10^k->n<=1000000000000->t.size<=1000 - k->k<=100->∃r,loopP P.b3l (k+1) (n,(t,()))=some (r,()):=by
 intro k
 induction k with
 |zero=>
  intro n t h0 h1 hm ht hk;have hn:n=0:=by
   have:(10:Int)^0=1:=rfl;omega
  subst hn;refine⟨bs [109]++t,?_⟩;rw[a0j];unfold P.b3l;dsimp only;rw[if_neg (by simp),if_pos (decide_eq_true (by omega))]
 |succ k ih=>
  intro n t h0 h1 hm ht hk;rw[a0j];unfold P.b3l;dsimp only
  by_cases hp:n>0
  ·have hsz:∀z:Int,(b9k [z]).size=1:=fun z=>rfl
   rw[if_pos (decide_eq_true hp),if_pos (decide_eq_true (by rw[hsz];omega))];have hd:Int.tdiv n 10=n/10:=Int.tdiv_eq_ediv_of_nonneg h0;have hb:n/10<10^k:=by
    rw[Int.pow_succ]at h1;omega
   rw[hd,wr (x:=n/10) (by omega) (by omega)]
   exact ih (n/10) _ (by omega) hb (by omega) (by
    rw[ByteArray.size_append,hsz];omega) (by omega)
  ·rw[if_neg (by simpa using hp),if_pos (decide_eq_true (by omega))];exact⟨_,rfl⟩
def S.a6x (x:(Int×Unit)):(Option (ByteArray×Unit)):=if 0<=x.1/\x.1<=1000000000000 then P.c0t 14 x else none
theorem S.d8r (x r) (h:S.a6x x=some r):∃k,P.c0t k x=some r:=by
 unfold S.a6x at h;split at h
 case isFalse=>cases h
 exact⟨14,h⟩
def mkT (n:Int):ByteArray:=match S.a6x (n,())with
 |some r=>r.1
 |none=>bs []
theorem g7f {n:Int} (h0:0<=n) (h1:n<=1000000000000):S.a6x (n,())=some (mkT n,()):=by
 have:∃t,S.a6x (n,())=some (t,()):=by
  unfold S.a6x;dsimp only;rw[if_pos ⟨h0,h1⟩];unfold P.c0t;dsimp only
  by_cases hn:n<=0
  ·rw[if_pos (decide_eq_true hn)];exact⟨_,rfl⟩
  ·rw[if_neg (by simpa using hn)];exact f7k 13 n _ h0 (by have:(10:Int)^13=10000000000000:=rfl;omega) h1 (by decide) (by decide)
 obtain⟨t,ht⟩:=this;unfold mkT;rw[ht]
def b2z (q:Int):Nat->List ByteArray
 |0=>[]
 |n+1=>b2z q n++[mkT (q+(n:Int))]
theorem a5p (q:Int) (n:Nat):(b2z q n).length=n:=by
 induction n with
 |zero=>rfl
 |succ n ih=>rw[b2z,List.length_append,ih];rfl
theorem f7l (q:Int) (n i:Nat) (hi:i<n):(b2z q n)[i]'(by rw[a5p];exact hi)=mkT (q+(i:Int)):=by
 induction n with
 |zero=>omega
 |succ n ih=>
  unfold b2z
  by_cases h:i<n
  ·rw[List.getElem_append_left (by rw[a5p];exact h)];exact ih h
  ·have:i=n:=by omega
   subst this;rw[List.getElem_append_right (by rw[a5p];exact Nat.le_refl _)];simp [a5p]
abbrev P.a8a (x1:Int×List ByteArray×Int×Unit) (g2:Int×List ByteArray×Int×Unit->Option (Int×List ByteArray×Unit)):Option (Int×List ByteArray×Unit):=
 if decide (x1.1<(x1.2.1.length:Int))then(S.a6x (x1.2.2.1,())).bind fun y3=>if decide (0<=x1.1)then if decide (x1.1<(x1.2.1.length:Int))then g2 (wrap .i64 (x1.1+1),x1.2.1.set (0+x1.1.toNat) y3.1,wrap .i64 (x1.2.2.1+1),())else none else none else some (x1.2.2.1,x1.2.1,())
def P.b7i (k:Nat) (x:List ByteArray×Int×Unit):Option (Int×List ByteArray×Unit):=
 loopP P.a8a k (0,x.1,x.2.1,())
def S.a6y (x:((List ByteArray)×(Int×Unit))):(Option (Int×((List ByteArray)×Unit))):=if 0<=x.2.1/\x.2.1<=100000000/\x.1.length<=10000000 then some (x.2.1+(x.1.length:Int),(b2z x.2.1 x.1.length,()))else none
theorem S.c8m (x r) (h:S.a6y x=some r):∃k,P.b7i k x=some r:=by
 obtain⟨xs,q,u⟩:=x;unfold S.a6y at h;dsimp only at h;split at h
 case isFalse=>cases h
 rename_i hc;obtain⟨h0,h1,h2⟩:=hc;cases h;refine⟨xs.length+1,?_⟩;unfold P.b7i;have key:=a0f (k:=xs.length+1) (b:=P.a8a) (n:=xs.length) (st:=fun i=>((i:Int),(b2z q i++xs.drop i,(q+(i:Int),())))) (F:=fun i=>some (q+(xs.length:Int),(b2z q xs.length,()))) (fun i g hi hg=>by
  unfold P.a8a;dsimp only at hg ⊢;have hlen:(b2z q i++xs.drop i).length=xs.length:=by rw[List.length_append,a5p,List.length_drop];omega
  have e1:(i:Int)<(xs.length:Int):=by omega
  have e2:(0:Int)<=(i:Int):=by omega
  rw[hlen,if_pos (decide_eq_true e1),g7f (by omega) (by omega),Option.bind_some];dsimp only;rw[if_pos (decide_eq_true e2),if_pos (decide_eq_true e1),wr (by omega) (by omega),wr (by omega) (by omega),Nat.zero_add,Int.toNat_natCast];have hset:(b2z q i++xs.drop i).set i (mkT (q+(i:Int)))=b2z q (i+1)++xs.drop (i+1):=by
   rw[List.set_append_right _ _ (by rw[a5p];exact Nat.le_refl _),a5p,Nat.sub_self,List.drop_eq_getElem_cons hi,List.set_cons_zero,b2z,List.append_assoc];rfl
  rw[hset,show(i:Int)+1=((i+1:Nat):Int) by omega,show q+(i:Int)+1=q+((i+1:Nat):Int) by omega];exact hg) (fun g=>by
  unfold P.a8a;dsimp only;have hlen:(b2z q xs.length++xs.drop xs.length).length=xs.length:=by rw[List.length_append,a5p,List.length_drop];omega
  rw[hlen,if_neg (by simp),List.drop_length,List.append_nil]) (by omega)
 refine Eq.trans ?_ key;rw[show q+((0:Nat):Int)=q by omega];rfl
abbrev l_markStringSS.A:=Option (Int×List (List ByteArray×Nat)×Unit)
abbrev P.a6z (x2:Int×List (List ByteArray×Nat)×Int×Unit) (g3:Int×List (List ByteArray×Nat)×Int×Unit->l_markStringSS.A):l_markStringSS.A:=
 (fun(a c:Int) (b:List (List ByteArray×Nat))=>if decide (a<(List.length (hd0 b):Int))then if decide (0<=a)then if decide (a<(List.length (hd0 b):Int))then(S.a6y (seen (List.getD (in0 b) (List.getD (hd0 b) (0+a.toNat) (0,0)).1 []) 0 (List.getD (hd0 b) (0+a.toNat) (0,0)).2,c,())).bind fun y4=>if dup (List.map (fun(y5:Nat×Nat)=>y5.1) (hd0 b))then none else g3 (wrap .i64 (a+1),nrm (hd0 b) (List.set (in0 b) (List.getD (hd0 b) (0+a.toNat) (0,0)).1 (splice (List.getD (in0 b) (List.getD (hd0 b) (0+a.toNat) (0,0)).1 []) y4.2.1 0)),y4.1,())else none else none else if dup (List.map (fun(y6:Nat×Nat)=>y6.1) (hd0 b))then none else some (c,nrm (hd0 b) (in0 b),())) x2.1 x2.2.2.1 x2.2.1
def P.b6g (k:Nat) (x:List (List ByteArray×Nat)×Int×Unit):l_markStringSS.A:=
 if dup (List.map (fun(y0:Nat×Nat)=>y0.1) (hd0 x.1))then none else loopP P.a6z k (0,nrm (hd0 x.1) (in0 x.1),x.2.1,())
def b9a:List (List ByteArray×Nat)->Nat
 | []=>0
 |r::m=>(seen r.1 0 r.2).length+b9a m
def mk2 (q:Int):List (List ByteArray×Nat)->List (List ByteArray×Nat)
 | []=>[]
 |r::m=>(splice r.1 (b2z q (seen r.1 0 r.2).length) 0,r.2)::mk2 (q+((seen r.1 0 r.2).length:Int)) m
theorem e8q (q:Int) (m:List (List ByteArray×Nat)):(mk2 q m).length=m.length:=by
 induction m generalizing q with
 |nil=>rfl
 |cons r m ih=>simp [mk2,ih]
theorem d0p (a b:List (List ByteArray×Nat)):b9a (a++b)=b9a a+b9a b:=by
 induction a with
 |nil=>simp [b9a]
 |cons r a ih=>rw[List.cons_append,b9a,b9a,ih];omega
theorem g3i (q:Int) (a:List (List ByteArray×Nat)) (r:List ByteArray×Nat):mk2 q (a++[r])=mk2 q a++[(splice r.1 (b2z (q+(b9a a:Int)) (seen r.1 0 r.2).length) 0,r.2)]:=by
 induction a generalizing q with
 |nil=>simp [mk2,b9a]
 |cons b a ih=>
  rw[List.cons_append,mk2,mk2,ih,b9a,List.cons_append,show q+((seen b.1 0 b.2).length:Int)+(b9a a:Int)=q+(((seen b.1 0 b.2).length+b9a a:Nat):Int) by omega]
def S.a5u (x:((List ((List ByteArray)×Nat))×(Int×Unit))):(Option (Int×((List ((List ByteArray)×Nat))×Unit))):=if 0<=x.2.1/\x.2.1<=1000000/\b9a x.1<=10000000/\x.1.length<=10000000 then some (x.2.1+(b9a x.1:Int),(mk2 x.2.1 x.1,()))else none
theorem S.c5o (x r) (h:S.a5u x=some r):∃k,P.b6g k x=some r:=by
 obtain⟨m,q,u⟩:=x;unfold S.a5u at h;dsimp only at h;split at h
 case isFalse=>cases h
 rename_i hc;obtain⟨h0,h1,h2,h3⟩:=hc;cases h;refine⟨m.length+1,?_⟩;unfold P.b6g;dsimp only;have key:=a0f (k:=m.length+1) (b:=P.a6z) (n:=m.length) (st:=fun i=>((i:Int),(mk2 q (m.take i)++m.drop i,(q+(b9a (m.take i):Int),())))) (F:=fun i=>some (q+(b9a m:Int),(mk2 q m,()))) (fun i g hi hg=>by
  unfold P.a6z;dsimp only at hg ⊢;have hl:(mk2 q (m.take i)).length=i:=by rw[e8q,List.length_take];omega
  have hlen:(mk2 q (m.take i)++m.drop i).length=m.length:=by rw[List.length_append,hl,List.length_drop];omega
  have hget:(mk2 q (m.take i)++m.drop i)[i]'(by rw[hlen];exact hi)=m[i]:=by
   rw[List.getElem_append_right (by omega)];simp [hl]
  have e1:(i:Int)<(m.length:Int):=by omega
  have e2:(0:Int)<=(i:Int):=by omega
  have et:m=m.take i++m[i]::m.drop (i+1):=by rw[<-List.drop_eq_getElem_cons hi,List.take_append_drop]
  have en:b9a (m.take i)+((seen m[i].1 0 m[i].2).length+b9a (m.drop (i+1)))=b9a m:=by
   conv=>rhs;rw[et,d0p,b9a]
  have em:S.a6y (seen m[i].1 0 m[i].2,(q+(b9a (m.take i):Int),()))=some (q+(b9a (m.take i):Int)+((seen m[i].1 0 m[i].2).length:Int),(b2z (q+(b9a (m.take i):Int)) (seen m[i].1 0 m[i].2).length,())):=by
   unfold S.a6y;exact if_pos ⟨by show 0<=q+(b9a (m.take i):Int);omega,by show q+(b9a (m.take i):Int)<=100000000;omega,by show(seen m[i].1 0 m[i].2).length<=10000000;omega⟩
  simp only[a0k,hlen,e1,e2,decide_true,if_true,Nat.zero_add,Int.toNat_natCast];rw[g7x _ (by rw[hlen];exact hi)];dsimp only;rw[g7y _ (by rw[hlen];exact hi),hget,em,Option.bind_some];simp only[a0r,Bool.false_eq_true,if_false];rw[d1u _ (by rw[hlen];exact hi),hget,wr (by omega) (by omega)];have e5:(mk2 q (m.take i)++m.drop i).set i (splice m[i].1 (b2z (q+(b9a (m.take i):Int)) (seen m[i].1 0 m[i].2).length) 0,m[i].2)=mk2 q (m.take (i+1))++m.drop (i+1):=by
   rw[List.set_append_right _ _ (by omega),hl,Nat.sub_self,List.drop_eq_getElem_cons hi,List.set_cons_zero,<-List.take_append_getElem hi,g3i,List.append_assoc];rfl
  have e6:q+(b9a (m.take i):Int)+((seen m[i].1 0 m[i].2).length:Int)=q+(b9a (m.take (i+1)):Int):=by
   rw[<-List.take_append_getElem hi,d0p];simp only[b9a];omega
  rw[e5,e6,<-hg];rfl) (fun g=>by
  unfold P.a6z;dsimp only;rw[List.take_length,List.drop_length,List.append_nil];simp only[a0k,e8q,a0r,a0w,Bool.false_eq_true,if_false];rw[if_neg (by simp)]) (by omega)
 simp only[a0r,a0w,Bool.false_eq_true,if_false];refine Eq.trans ?_ key;simp [b9a,mk2]
def P.b4p (k:Nat) (x:List (List ByteArray×Nat)×Int×Unit):Option (Int×List (List ByteArray×Nat)×Unit):=
 if dup (List.map (fun(y0:Nat×Nat)=>y0.1) (hd0 x.1))then none else(S.a5u (nrm (hd0 x.1) (in0 x.1),x.2.1,())).bind fun y1=>if dup (List.map (fun(y2:Nat×Nat)=>y2.1) (hd0 y1.2.1))then none else some (y1.1,nrm (hd0 y1.2.1) (in0 y1.2.1),())
def S.a5i (x:((List ((List ByteArray)×Nat))×(Int×Unit))):(Option (Int×((List ((List ByteArray)×Nat))×Unit))):=P.b4p 0 x
theorem S.d4y (x r) (h:S.a5i x=some r):∃k,P.b4p k x=some r:=⟨0,h⟩
abbrev l_toStringSo.A:=Int×List ByteArray×List ByteArray×Unit
abbrev l_toStringSo.B:=Option ((List ByteArray×Nat)×Unit)
abbrev P.a6g (x5:l_toStringSo.A) (g6:l_toStringSo.A->l_toStringSo.B):l_toStringSo.B:=
 if decide (x5.1<(x5.2.1.length:Int))then if decide (0<=x5.1)then if decide (x5.1<(x5.2.1.length:Int))then g6 (wrap .i64 (x5.1+1),x5.2.1.set (0+x5.1.toNat) (bs [126,115,112,97,114,101,126]),x5.2.2.1,())else none else none else if decide (0<=(x5.2.2.1.length:Int))then if decide (((x5.2.2.1.length:Int)+0)<=(x5.2.1.length:Int))then if decide (0<=(x5.2.2.1.length:Int))then some ((x5.2.1,(Int.toNat (x5.2.2.1.length:Int)) - 0),())else none else none else none
abbrev P.a3w (k:Nat) (x2:l_toStringSo.A) (g3:l_toStringSo.A->l_toStringSo.B):l_toStringSo.B:=
 if decide (x2.1<(x2.2.1.length:Int))then if decide (0<=x2.1)then if decide (x2.1<(x2.2.1.length:Int))then if decide (0<=x2.1)then if decide (x2.1<(x2.2.2.1.length:Int))then g3 (wrap .i64 (x2.1+1),x2.2.1,x2.2.2.1.set (0+x2.1.toNat) (x2.2.1.getD x2.1.toNat (bs [])),())else none else none else none else none else loopP P.a6g k ((x2.2.1.length:Int),x2.2.2.1,x2.2.1,())
def P.b9h (k:Nat) (x:List ByteArray×Bool×Unit):l_toStringSo.B:=
 if x.2.1 then if(x.1.length:Int)==0 then some ((([]:List ByteArray),0),())else(S.a1y ((x.1.length:Int),())).bind fun y0=>if decide (0<=(wrap .i64 ((x.1.length:Int)+y0.1)))then if decide ((wrap .i64 ((x.1.length:Int)+y0.1))<=(wrap .i64 ((x.1.length:Int)+y0.1)))then if decide (((wrap .i64 ((x.1.length:Int)+y0.1))*16)<=281474976710656)then loopP (P.a3w k) k (0,x.1,List.replicate (Int.toNat (wrap .i64 ((x.1.length:Int)+y0.1))) (bs []),())else none else none else none else(S.a1y ((x.1.length:Int),())).bind fun y7=>if decide (0<=(wrap .i64 ((x.1.length:Int)+y7.1)))then if decide ((wrap .i64 ((x.1.length:Int)+y7.1))<=(wrap .i64 ((x.1.length:Int)+y7.1)))then if decide (((wrap .i64 ((x.1.length:Int)+y7.1))*16)<=281474976710656)then loopP (P.a3w k) k (0,x.1,List.replicate (Int.toNat (wrap .i64 ((x.1.length:Int)+y7.1))) (bs []),())else none else none else none
def S.a6h (x:((List ByteArray)×(Bool×Unit))):(Option (((List ByteArray)×Nat)×Unit)):=S.c2n x
theorem d8s (xs:List ByteArray) (m n k:Nat) (h:n=xs.length) (hl:n<=1000000) (hm:m<=n+1) (hk:m<k):
  loopP P.a6g k ((n:Int),xs++List.replicate m (bs []),xs,())=some ((xs++List.replicate m a4g,n),()):=by
 have key:=a0f (b:=P.a6g) (n:=m) (st:=fun i=>(((n+i:Nat):Int),(xs++List.replicate i a4g)++List.replicate (m - i) (bs []),xs,())) (F:=fun i=>some ((xs++List.replicate m a4g,n),())) (fun i g hi hg=>by
  unfold P.a6g;dsimp only at hg ⊢;have hlen:((xs++List.replicate i a4g)++List.replicate (m - i) (bs [])).length=n+m:=by simp;omega
  simp only[hlen];have e1:((n+i:Nat):Int)<((n+m:Nat):Int):=by omega
  have e2:(0:Int)<=((n+i:Nat):Int):=by omega
  simp only[e1,e2,decide_true,if_true];rw[wr (by omega) (by omega),<-hg];congr 1;have e3:m - i=(m - (i+1))+1:=by omega
  have e4:(0+((n+i:Nat):Int).toNat)=(xs++List.replicate i a4g).length:=by rw[List.length_append,List.length_replicate];omega
  rw[e3,e4,c0w];simp only[List.replicate_succ',<-List.append_assoc,a4g];rfl) (fun g=>by
  unfold P.a6g;dsimp only;have hlen:((xs++List.replicate m a4g)++List.replicate (m - m) (bs [])).length=n+m:=by simp;omega
  simp only[hlen];have e1:¬((n+m:Nat):Int)<((n+m:Nat):Int):=by omega
  have e2:(0:Int)<=(xs.length:Int):=by omega
  have e3:(xs.length:Int)+0<=((n+m:Nat):Int):=by omega
  simp only[e1,e2,e3,decide_true,decide_false,if_true,Bool.false_eq_true,if_false];simp [h]) hk
 simpa using key
theorem d8t (k0:Nat) (xs:List ByteArray) (m k:Nat) (hl:xs.length<=1000000) (hm:m<=xs.length+1) (hk0:m<k0) (hk:xs.length<k):
  loopP (P.a3w k0) k ((0:Int),xs,List.replicate (xs.length+m) (bs []),())=some ((xs++List.replicate m a4g,xs.length),()):=by
 have key:=a0f (b:=P.a3w k0) (n:=xs.length) (st:=fun i=>((i:Int),xs,xs.take i++List.replicate (xs.length - i+m) (bs []),())) (F:=fun i=>some ((xs++List.replicate m a4g,xs.length),())) (fun i g hi hg=>by
  unfold P.a3w;dsimp only at hg ⊢;have hlen:(xs.take i++List.replicate (xs.length - i+m) (bs [])).length=xs.length+m:=by simp;omega
  simp only[hlen];have e1:(i:Int)<(xs.length:Int):=by omega
  have e1':(i:Int)<((xs.length+m:Nat):Int):=by omega
  have e2:(0:Int)<=(i:Int):=by omega
  simp only[e1,e1',e2,decide_true,if_true];rw[wr (by omega) (by omega),a0n xs i _ hi,<-hg];congr 1;have e3:xs.length - i+m=(xs.length - (i+1)+m)+1:=by omega
  have e4:(0+(i:Int).toNat)=(xs.take i).length:=by simp;omega
  rw[e3,e4,c0w];simp) (fun g=>by
  unfold P.a3w;dsimp only;have e1:¬(xs.length:Int)<(xs.length:Int):=by omega
  simp only[e1,decide_false,Bool.false_eq_true,if_false];have:=d8s xs m xs.length k0 rfl hl hm hk0;simpa using this) hk
 simpa using key
theorem S.d0q (x r) (h:S.a6h x=some r):∃k,P.b9h k x=some r:=by
 obtain⟨xs,bare,u⟩:=x;unfold S.a6h S.c2n at h;dsimp only at h;split at h
 case isFalse=>cases h
 rename_i hl;cases h;refine⟨xs.length+2,?_⟩;have hr:=g3r xs.length;have go:(Option.bind (S.a1y (((List.length xs):Int),())) (fun(y0:(Int×Unit))=>(if((decide ((0:Int)<=(IntKind.wrap .i64 (((List.length xs):Int)+y0.1))))=true)then(if((decide ((IntKind.wrap .i64 (((List.length xs):Int)+y0.1))<=(IntKind.wrap .i64 (((List.length xs):Int)+y0.1))))=true)then(if((decide (((IntKind.wrap .i64 (((List.length xs):Int)+y0.1))*(16:Int))<=(281474976710656:Int)))=true)then(loopP (X:=(Int×((List ByteArray)×((List ByteArray)×Unit)))) (R:=(((List ByteArray)×Nat)×Unit)) (P.a3w (xs.length+2)) (xs.length+2) ((0:Int),(xs,((List.replicate (Int.toNat (IntKind.wrap .i64 (((List.length xs):Int)+y0.1))) (bs [])),()))))
 else none)
 else none)
 else none)))=some ((xs++List.replicate (rb xs.length).toNat a4g,xs.length),()):=by
  have e0:S.a1y ((xs.length:Int),())=some (rb xs.length,()):=by
   unfold S.a1y P.a8s rb;simp only[beq_iff_eq];split
   ·rfl
   ·split<;>rfl
  rw[e0,Option.bind_some];dsimp only;rw[wr (by omega) (by omega)];have e1:(0:Int)<=(xs.length:Int)+rb xs.length:=by omega
  have e2:(xs.length:Int)+rb xs.length<=(xs.length:Int)+rb xs.length:=by omega
  have e3:((xs.length:Int)+rb xs.length)*16<=281474976710656:=by omega
  simp only[e1,e2,e3,decide_true,if_true];have e4:((xs.length:Int)+rb xs.length).toNat=xs.length+(rb xs.length).toNat:=by omega
  rw[e4];exact d8t _ xs _ _ hl (by omega) (by omega) (by omega)
 unfold P.b9h tos;dsimp only;cases bare with
 |true=>
  simp only[if_true]
  by_cases hx:xs=[]
  ·subst hx;rfl
  ·have hx':¬((((xs.length:Nat):Int)==0)=true):=by
    simp [hx]
   rw[if_neg hx',if_neg (by simp [hx])];exact go
 |false=>
  simp only[Bool.false_eq_true,if_false,false_and];exact go
abbrev l_toStringSSo.A:=Int×List (List ByteArray)×List (List ByteArray×Nat)×Bool×Unit
abbrev l_toStringSSo.B:=Option ((List (List ByteArray×Nat)×Nat)×Unit)
abbrev P.a4i (x9:Int×List (List ByteArray×Nat)×List (List ByteArray)×Unit) (g10:Int×List (List ByteArray×Nat)×List (List ByteArray)×Unit->l_toStringSSo.B):l_toStringSSo.B:=
 if decide (x9.1<(List.length (hd0 x9.2.1):Int))then if decide (0<=x9.1)then if decide (x9.1<(List.length (hd0 x9.2.1):Int))then if dup (List.map (fun(y11:Nat×Nat)=>y11.1) (List.set (hd0 x9.2.1) (0+x9.1.toNat) (List.length (in0 x9.2.1),1)))then none else g10 (wrap .i64 (x9.1+1),nrm (List.set (hd0 x9.2.1) (0+x9.1.toNat) (List.length (in0 x9.2.1),1)) ((in0 x9.2.1)++[[(bs [126,115,112,97,114,101,126])]]),x9.2.2.1,())else none else none else if decide (0<=(x9.2.2.1.length:Int))then if decide (((x9.2.2.1.length:Int)+0)<=(List.length (hd0 x9.2.1):Int))then if decide (0<=(x9.2.2.1.length:Int))then if dup (List.map (fun(y12:Nat×Nat)=>y12.1) (hd0 x9.2.1))then none else some ((nrm (hd0 x9.2.1) (in0 x9.2.1),(Int.toNat (x9.2.2.1.length:Int)) - 0),())else none else none else none
abbrev P.a4j (k:Nat) (x3:l_toStringSSo.A) (g4:l_toStringSSo.A->l_toStringSSo.B):l_toStringSSo.B:=
 (fun(a:Int) (b:List (List ByteArray)) (c:List (List ByteArray×Nat)) (d:Bool)=>if decide (a<(b.length:Int))then if decide (0<=a)then if decide (a<(b.length:Int))then(S.a6h (b.getD a.toNat [],d,())).bind fun y5=>if decide (0<=a)then if decide (a<(List.length (hd0 c):Int))then if dup (List.map (fun(y6:Nat×Nat)=>y6.1) (List.set (hd0 c) (0+a.toNat) (List.length (in0 c),y5.1.2)))then none else g4 (wrap .i64 (a+1),b,nrm (List.set (hd0 c) (0+a.toNat) (List.length (in0 c),y5.1.2)) ((in0 c)++[y5.1.1]),d,())else none else none else none else none else if dup (List.map (fun(y7:Nat×Nat)=>y7.1) (hd0 c))then none else loopP P.a4i k ((b.length:Int),nrm (hd0 c) (in0 c),b,())) x3.1 x3.2.1 x3.2.2.1 x3.2.2.2.1
abbrev P.b6n (k:Nat) (x16:l_toStringSSo.A) (g17:l_toStringSSo.A->l_toStringSSo.B):l_toStringSSo.B:=
 (fun(a:Int) (b:List (List ByteArray)) (c:List (List ByteArray×Nat)) (d:Bool)=>if decide (a<(b.length:Int))then if decide (0<=a)then if decide (a<(b.length:Int))then(S.a6h (b.getD a.toNat [],d,())).bind fun y18=>if decide (0<=a)then if decide (a<(List.length (hd0 c):Int))then if dup (List.map (fun(y19:Nat×Nat)=>y19.1) (List.set (hd0 c) (0+a.toNat) (List.length (in0 c),y18.1.2)))then none else g17 (wrap .i64 (a+1),b,nrm (List.set (hd0 c) (0+a.toNat) (List.length (in0 c),y18.1.2)) ((in0 c)++[y18.1.1]),d,())else none else none else none else none else if dup (List.map (fun(y20:Nat×Nat)=>y20.1) (hd0 c))then none else loopP P.a4i k ((b.length:Int),nrm (hd0 c) (in0 c),b,())) x16.1 x16.2.1 x16.2.2.1 x16.2.2.2.1
def P.b7j (k:Nat) (x:List (List ByteArray)×Bool×Unit):l_toStringSSo.B:=
 if x.2.1 then if(x.1.length:Int)==0 then some ((([]:List (List ByteArray×Nat)),0),())else(S.a1y ((x.1.length:Int),())).bind fun y0=>if decide (0<=(wrap .i64 ((x.1.length:Int)+y0.1)))then if decide ((wrap .i64 ((x.1.length:Int)+y0.1))<=(wrap .i64 ((x.1.length:Int)+y0.1)))then if decide (((wrap .i64 ((x.1.length:Int)+y0.1))*24)<=281474976710656)then if dup (List.map (fun(y1:Nat×Nat)=>y1.1) (hd0 (List.replicate (Int.toNat (wrap .i64 ((x.1.length:Int)+y0.1))) (([]:List ByteArray),0))))then none else loopP (P.a4j k) k (0,x.1,nrm (hd0 (List.replicate (Int.toNat (wrap .i64 ((x.1.length:Int)+y0.1))) (([]:List ByteArray),0))) (in0 (List.replicate (Int.toNat (wrap .i64 ((x.1.length:Int)+y0.1))) (([]:List ByteArray),0))),x.2.1,())else none else none else none else(S.a1y ((x.1.length:Int),())).bind fun y13=>if decide (0<=(wrap .i64 ((x.1.length:Int)+y13.1)))then if decide ((wrap .i64 ((x.1.length:Int)+y13.1))<=(wrap .i64 ((x.1.length:Int)+y13.1)))then if decide (((wrap .i64 ((x.1.length:Int)+y13.1))*24)<=281474976710656)then if dup (List.map (fun(y14:Nat×Nat)=>y14.1) (hd0 (List.replicate (Int.toNat (wrap .i64 ((x.1.length:Int)+y13.1))) (([]:List ByteArray),0))))then none else loopP (P.b6n k) k (0,x.1,nrm (hd0 (List.replicate (Int.toNat (wrap .i64 ((x.1.length:Int)+y13.1))) (([]:List ByteArray),0))) (in0 (List.replicate (Int.toNat (wrap .i64 ((x.1.length:Int)+y13.1))) (([]:List ByteArray),0))),x.2.1,())else none else none else none
def S.a9m (x:((List (List ByteArray))×(Bool×Unit))):(Option (((List ((List ByteArray)×Nat))×Nat)×Unit)):=S.b9y x
theorem d4z (xs:List (List ByteArray)) (ys:List (List ByteArray×Nat)) (m n k:Nat) (h:n=xs.length) (hy:ys.length=n) (hl:n<=1000000) (hm:m<=n+1) (hk:m<k):
  loopP P.a4i k ((n:Int),ys++List.replicate m ([],0),xs,())=some ((ys++List.replicate m b5w,n),()):=by
 have key:=a0f (b:=P.a4i) (n:=m) (st:=fun i=>(((n+i:Nat):Int),(ys++List.replicate i b5w)++List.replicate (m - i) ([],0),xs,())) (F:=fun i=>some ((ys++List.replicate m b5w,n),())) (fun i g hi hg=>by
  unfold P.a4i;dsimp only at hg ⊢;have hlen:((ys++List.replicate i b5w)++List.replicate (m - i) ([],0)).length=n+m:=by simp;omega
  have e1:((n+i:Nat):Int)<((n+m:Nat):Int):=by omega
  have e2:(0:Int)<=((n+i:Nat):Int):=by omega
  simp only[a0k,hlen,c2m,d1t,e1,e2,decide_true,if_true,Bool.false_eq_true,if_false];rw[wr (by omega) (by omega),<-hg];congr 1;have e3:m - i=(m - (i+1))+1:=by omega
  have e4:(0+((n+i:Nat):Int).toNat)=(ys++List.replicate i b5w).length:=by rw[List.length_append,List.length_replicate];omega
  rw[e3,e4,c0w];simp only[List.replicate_succ',<-List.append_assoc,b5w,a4g];rfl) (fun g=>by
  unfold P.a4i;dsimp only;have hlen:((ys++List.replicate m b5w)++List.replicate (m - m) ([],0)).length=n+m:=by simp;omega
  have e1:¬((n+m:Nat):Int)<((n+m:Nat):Int):=by omega
  have e2:(0:Int)<=(xs.length:Int):=by omega
  have e3:(xs.length:Int)+0<=((n+m:Nat):Int):=by omega
  simp only[a0k,hlen,a0r,a0w,e1,e2,e3,decide_true,decide_false,if_true,Bool.false_eq_true,if_false];simp [h]) hk
 simpa using key
theorem d5a (k0:Nat) (bare:Bool) (xs:List (List ByteArray)) (m k:Nat) (hl:h0k xs) (hm:m<=xs.length+1) (hk0:m<k0) (hk:xs.length<k):
  loopP (P.a4j k0) k ((0:Int),xs,List.replicate (xs.length+m) ([],0),bare,())=some ((xs.map (tos a4g bare)++List.replicate m b5w,xs.length),()):=by
 obtain⟨hl,hr⟩:=hl;have key:=a0f (b:=P.a4j k0) (n:=xs.length) (st:=fun i=>((i:Int),xs,(xs.take i).map (tos a4g bare)++List.replicate (xs.length - i+m) ([],0),bare,())) (F:=fun i=>some ((xs.map (tos a4g bare)++List.replicate m b5w,xs.length),())) (fun i g hi hg=>by
  unfold P.a4j;dsimp only at hg ⊢;have hlen:((xs.take i).map (tos a4g bare)++List.replicate (xs.length - i+m) ([],0)).length=xs.length+m:=by simp;omega
  have e1:(i:Int)<(xs.length:Int):=by omega
  have e1':(i:Int)<((xs.length+m:Nat):Int):=by omega
  have e2:(0:Int)<=(i:Int):=by omega
  have es:S.a6h (xs[i],bare,())=some (tos a4g bare xs[i],()):=by simp [S.a6h,S.c2n,hr xs[i] (List.getElem_mem hi)]
  simp only[a0k,hlen,e1,e1',e2,decide_true,if_true];rw[wr (by omega) (by omega),a0n xs i _ hi,es,Option.bind_some];simp only[c2m,d1t,Bool.false_eq_true,if_false];rw[<-hg];congr 1;have e3:xs.length - i+m=(xs.length - (i+1)+m)+1:=by omega
  have e4:(0+(i:Int).toNat)=((xs.take i).map (tos a4g bare)).length:=by simp;omega
  rw[e3,e4,c0w];have e5:(xs.take (i+1)).map (tos a4g bare)=(xs.take i).map (tos a4g bare)++[tos a4g bare xs[i]]:=by rw[<-List.take_append_getElem hi,List.map_append];rfl
  rw[e5];rfl) (fun g=>by
  unfold P.a4j;dsimp only;have e1:¬(xs.length:Int)<(xs.length:Int):=by omega
  simp only[e1,decide_false,a0r,a0w,Bool.false_eq_true,if_false];have:=d4z xs (xs.map (tos a4g bare)) m xs.length k0 rfl (by simp) hl hm hk0;simpa using this) hk
 simpa using key
theorem S.c8n (x r) (h:S.a9m x=some r):∃k,P.b7j k x=some r:=by
 obtain⟨xs,bare,u⟩:=x;unfold S.a9m S.b9y at h;dsimp only at h;split at h
 case isFalse=>cases h
 rename_i hl;have hl1:=hl.1;cases h;refine⟨xs.length+2,?_⟩;have hr:=g3r xs.length;have e0:S.a1y ((xs.length:Int),())=some (rb xs.length,()):=by
  unfold S.a1y P.a8s rb;simp only[beq_iff_eq];split
  ·rfl
  ·split<;>rfl
 have e1:(0:Int)<=(xs.length:Int)+rb xs.length:=by omega
 have e3:((xs.length:Int)+rb xs.length)*24<=281474976710656:=by omega
 have e4:((xs.length:Int)+rb xs.length).toNat=xs.length+(rb xs.length).toNat:=by omega
 have hb:P.b6n=P.a4j:=rfl;have key:=fun b=>d5a (xs.length+2) b xs (rb xs.length).toNat (xs.length+2) hl (by omega) (by omega) (by omega)
 unfold P.b7j d0a;dsimp only;rw[e0,hb];simp only[Option.bind_some];rw[wr (by omega) (by omega)];simp only[e1,e3,e4,Int.le_refl,decide_true,if_true,a0r,a0w,key,Bool.false_eq_true,if_false];cases bare with
 |true=>
  simp only[if_true]
  by_cases hx:xs=[]
  ·subst hx;rfl
  ·have hx':¬((((xs.length:Nat):Int)==0)=true):=by
    simp [hx]
   rw[if_neg hx',if_neg (by simp [hx])]
 |false=>
  simp only[Bool.false_eq_true,if_false,false_and]
def P.c0u (k:Nat) (x:List (List ByteArray)×Bool×Unit):Option ((List (List ByteArray×Nat)×Nat)×Unit):=
 (S.a9m (x.1,x.2.1,())).bind fun y0=>if dup (List.map (fun(y1:Nat×Nat)=>y1.1) (hd0 y0.1.1))then none else some ((nrm (hd0 y0.1.1) (in0 y0.1.1),y0.1.2),())
def S.a8t (x:((List (List ByteArray))×(Bool×Unit))):(Option (((List ((List ByteArray)×Nat))×Nat)×Unit)):=P.c0u 0 x
theorem S.d8u (x r) (h:S.a8t x=some r):∃k,P.c0u k x=some r:=⟨0,h⟩
abbrev P.a8b (x1:Int×List ByteArray×Int×Unit) (g2:Int×List ByteArray×Int×Unit->Option (Int×Unit)):Option (Int×Unit):=
 if decide (x1.1<(x1.2.1.length:Int))then if decide (0<=x1.1)then if decide (x1.1<(x1.2.1.length:Int))then(S.a6x (x1.2.2.1,())).bind fun y3=>if ! ((ByteArray.toList (x1.2.1.getD x1.1.toNat (bs [])))==(ByteArray.toList y3.1))then some ((-1:Int),())else g2 (wrap .i64 (x1.1+1),x1.2.1,wrap .i64 (x1.2.2.1+1),())else none else none else some (x1.2.2.1,())
def P.b7k (k:Nat) (x:List ByteArray×Int×Unit):Option (Int×Unit):=
 loopP P.a8b k (0,x.1,x.2.1,())
open Classical in
def S.a7a (x:((List ByteArray)×(Int×Unit))):(Option (Int×Unit)):=if 0<=x.2.1/\x.2.1<=100000000/\x.1.length<=10000000/\x.1=b2z x.2.1 x.1.length then some (x.2.1+(x.1.length:Int),())else none
theorem S.c8o (x r) (h:S.a7a x=some r):∃k,P.b7k k x=some r:=by
 obtain⟨xs,q,u⟩:=x;unfold S.a7a at h;dsimp only at h;split at h
 case isFalse=>cases h
 rename_i hc;obtain⟨h0,h1,h2,h3⟩:=hc;cases h;refine⟨xs.length+1,?_⟩;unfold P.b7k;have key:=a0f (k:=xs.length+1) (b:=P.a8b) (n:=xs.length) (st:=fun i=>((i:Int),(xs,(q+(i:Int),())))) (F:=fun i=>some (q+(xs.length:Int),())) (fun i g hi hg=>by
  unfold P.a8b;dsimp only at hg ⊢;have e1:(i:Int)<(xs.length:Int):=by omega
  have e2:(0:Int)<=(i:Int):=by omega
  have hx:xs[i]=mkT (q+(i:Int)):=by
   have:=f7l q xs.length i hi;rw[<-this];congr 1
  rw[if_pos (decide_eq_true e1),if_pos (decide_eq_true e2),if_pos (decide_eq_true e1),g7f (by omega) (by omega),Option.bind_some,a0n xs i _ hi,hx];dsimp only;rw[beq_self_eq_true,if_neg (by decide),wr (by omega) (by omega),wr (by omega) (by omega),show(i:Int)+1=((i+1:Nat):Int) by omega,show q+(i:Int)+1=q+((i+1:Nat):Int) by omega];exact hg) (fun g=>by
  unfold P.a8b;dsimp only;rw[if_neg (by simp)]) (by omega)
 refine Eq.trans ?_ key;rw[show q+((0:Nat):Int)=q by omega];rfl
abbrev P.a7b (x1:Int×List (List ByteArray)×Int×Unit) (g2:Int×List (List ByteArray)×Int×Unit->Option (Int×Unit)):Option (Int×Unit):=
 if decide (x1.1<(x1.2.1.length:Int))then if decide (0<=x1.1)then if decide (x1.1<(x1.2.1.length:Int))then(S.a7a (x1.2.1.getD x1.1.toNat [],x1.2.2.1,())).bind fun y3=>if decide (y3.1<0)then some ((-1:Int),())else g2 (wrap .i64 (x1.1+1),x1.2.1,y3.1,())else none else none else some (x1.2.2.1,())
def P.b6h (k:Nat) (x:List (List ByteArray)×Int×Unit):Option (Int×Unit):=
 loopP P.a7b k (0,x.1,x.2.1,())
def mkV (q:Int):List Nat->List (List ByteArray)
 | []=>[]
 |n::ns=>b2z q n::mkV (q+(n:Int)) ns
theorem d0r (q:Int) (ns:List Nat):(mkV q ns).length=ns.length:=by
 induction ns generalizing q with
 |nil=>rfl
 |cons n ns ih=>rw[mkV,List.length_cons,ih,List.length_cons]
theorem g3j (q:Int) (ns:List Nat):(mkV q ns).map List.length=ns:=by
 induction ns generalizing q with
 |nil=>rfl
 |cons n ns ih=>rw[mkV,List.map_cons,ih,a5p]
theorem g8x (q:Int) (ns:List Nat) (i:Nat) (h:i<ns.length):(mkV q ns)[i]'(by rw[d0r];exact h)=b2z (q+((ns.take i).sum:Int)) ns[i]:=by
 induction ns generalizing q i with
 |nil=>simp at h
 |cons n ns ih=>
  cases i with
  |zero=>simp [mkV]
  |succ i=>
   simp only[mkV,List.getElem_cons_succ,List.take_succ_cons,List.sum_cons];rw[ih _ _ (by simpa using h)];congr 1;rw[Int.natCast_add];omega
def S.a7n (x:((List (List ByteArray))×(Int×Unit))):(Option (Int×Unit)):=if 0<=x.2.1/\x.2.1<=1000000/\(x.1.map List.length).sum<=1000000/\x.1.length<=1000000/\x.1=mkV x.2.1 (x.1.map List.length)then some (x.2.1+((x.1.map List.length).sum:Int),())else none
theorem S.c5p (x r) (h:S.a7n x=some r):∃k,P.b6h k x=some r:=by
 obtain⟨xs,q,u⟩:=x;unfold S.a7n at h;dsimp only at h;split at h
 case isFalse=>cases h
 rename_i hc;obtain⟨h0,h1,h2,h3,h4⟩:=hc;cases h;generalize xs.map List.length=ns at*;subst h4;rw[d0r]at h3;refine⟨ns.length+1,?_⟩;unfold P.b6h;dsimp only;have key:=a0f (k:=ns.length+1) (b:=P.a7b) (n:=ns.length) (st:=fun i=>((i:Int),(mkV q ns,(q+((ns.take i).sum:Int),())))) (F:=fun i=>some (q+(ns.sum:Int),())) (fun i g hi hg=>by
  unfold P.a7b;dsimp only at hg ⊢;have hl:i<(mkV q ns).length:=by rw[d0r];exact hi
  have e1:(i:Int)<((mkV q ns).length:Int):=by omega
  have e2:(0:Int)<=(i:Int):=by omega
  have es:(ns.take i).sum+ns[i]=(ns.take (i+1)).sum:=by
   rw[<-List.take_append_getElem hi,List.sum_append];simp
  have et:(ns.take (i+1)).sum<=ns.sum:=by
   have:ns.sum=(ns.take (i+1)).sum+(ns.drop (i+1)).sum:=by rw[<-List.sum_append,List.take_append_drop]
   omega
  have eh:S.a7a (b2z (q+((ns.take i).sum:Int)) ns[i],(q+((ns.take i).sum:Int),()))=some (q+((ns.take (i+1)).sum:Int),()):=by
   unfold S.a7a;dsimp only;rw[a5p,if_pos ⟨by omega,by omega,by omega,rfl⟩,<-es];congr 2;omega
  rw[if_pos (decide_eq_true e1),if_pos (decide_eq_true e2),if_pos (decide_eq_true e1),a0n _ i _ hl,g8x q ns i hi,eh,Option.bind_some,if_neg (by simp;omega),wr (by omega) (by omega)];exact hg) (fun g=>by
  unfold P.a7b;dsimp only;rw[if_neg (by rw[d0r];simp),List.take_length]) (by omega)
 refine Eq.trans ?_ key;simp
def P.b7l (k:Nat) (x:List (List ByteArray)×Int×Unit):Option (Int×Unit):=
 (S.a7n (x.1,x.2.1,())).bind fun y0=>if decide (y0.1<0)then some ((-1:Int),())else some (y0.1,())
def S.b0y (x:((List (List ByteArray))×(Int×Unit))):(Option (Int×Unit)):=P.b7l 0 x
theorem S.d5b (x r) (h:S.b0y x=some r):∃k,P.b7l k x=some r:=⟨0,h⟩
abbrev P.b7m (x1:Int×ByteArray×Int×List ByteArray×Int×Unit) (g2:Int×ByteArray×Int×List ByteArray×Int×Unit->Option (List ByteArray×Unit)):Option (List ByteArray×Unit):=
 (fun(a c e:Int) (b:ByteArray) (d:List ByteArray)=>if decide (a<=(b.size:Int))then if a==(b.size:Int)then if decide (0<=a)then if decide (a<=(b.size:Int))then if decide (0<=e)then if decide (e<=a)then if decide (((d.length+(List.length [ByteArray.extract b e.toNat a.toNat]))*16)<=140737488355328)then g2 (wrap .i64 (a+1),b,c,d++[ByteArray.extract b e.toNat a.toNat],wrap .i64 (a+1),())else none else none else none else none else none else if decide (0<=a)then if decide (a<(b.size:Int))then if(a2h b a)==c then if decide (0<=a)then if decide (a<=(b.size:Int))then if decide (0<=e)then if decide (e<=a)then if decide (((d.length+(List.length [ByteArray.extract b e.toNat a.toNat]))*16)<=140737488355328)then g2 (wrap .i64 (a+1),b,c,d++[ByteArray.extract b e.toNat a.toNat],wrap .i64 (a+1),())else none else none else none else none else none else g2 (wrap .i64 (a+1),b,c,d,e,())else none else none else some (d,())) x1.1 x1.2.2.1 x1.2.2.2.2.1 x1.2.1 x1.2.2.2.1
def P.d8v (k:Nat) (x:ByteArray×Int×Unit):Option (List ByteArray×Unit):=
 loopP P.b7m k (0,x.1,x.2.1,[],0,())
def a9n (s:ByteArray) (c:Int):Nat->List ByteArray×Nat
 |0=>([],0)
 |i+1=>if i=s.size\/a2h s (i:Int)=c then((a9n s c i).1++[s.extract (a9n s c i).2 i],i+1)else a9n s c i
theorem f2i (s:ByteArray) (c:Int) (i:Nat):(a9n s c i).1.length<=i/\(a9n s c i).2<=i:=by
 induction i with
 |zero=>exact⟨Nat.le_refl _,Nat.le_refl _⟩
 |succ i ih=>
  unfold a9n;split
  ·refine⟨?_,Nat.le_refl _⟩;simp;omega
  ·omega
def S.a8c (x:(ByteArray×(Int×Unit))):(Option ((List ByteArray)×Unit)):=if x.1.size<=1000000 then some ((a9n x.1 x.2.1 (x.1.size+1)).1,())else none
theorem S.e8r (x r) (h:S.a8c x=some r):∃k,P.d8v k x=some r:=by
 obtain⟨s,c,u⟩:=x;unfold S.a8c at h;dsimp only at h;split at h
 case isFalse=>cases h
 rename_i hs;cases h;refine⟨s.size+2,?_⟩;unfold P.d8v;dsimp only;have key:=a0f (k:=s.size+2) (b:=P.b7m) (n:=s.size+1) (st:=fun i=>((i:Int),s,c,(a9n s c i).1,((a9n s c i).2:Int),())) (F:=fun i=>some ((a9n s c (s.size+1)).1,())) (fun i g hi hg=>by
  unfold P.b7m;dsimp only at hg ⊢;obtain⟨q1,q2⟩:=f2i s c i;have e1:(i:Int)<=(s.size:Int):=by omega
  have e2:(0:Int)<=(i:Int):=by omega
  have e3:(0:Int)<=((a9n s c i).2:Int):=by omega
  have e4:((a9n s c i).2:Int)<=(i:Int):=by omega
  have e5:((a9n s c i).1.length+([s.extract (a9n s c i).2 i]:List ByteArray).length)*16<=140737488355328:=by simp;omega
  rw[a9n]at hg
  by_cases hq:i=s.size
  ·rw[if_pos (.inl hq)]at hg;rw[<-hg];have e6:((i:Int)==(s.size:Int))=true:=by simp [hq]
   simp only[e1,e2,e3,e4,e6,decide_true,if_true,Int.toNat_natCast];rw[if_pos (decide_eq_true e5),wr (by omega) (by omega)];rfl
  ·have e6:¬((i:Int)==(s.size:Int))=true:=by simp;omega
   have e7:(i:Int)<(s.size:Int):=by omega
   rw[if_pos (decide_eq_true e1),if_neg e6,if_pos (decide_eq_true e2),if_pos (decide_eq_true e7)]
   by_cases hb:a2h s (i:Int)=c
   ·rw[if_pos (.inr hb)]at hg;rw[<-hg,if_pos (by simp [hb])];simp only[e1,e2,e3,e4,decide_true,if_true,Int.toNat_natCast];rw[if_pos (decide_eq_true e5),wr (by omega) (by omega)];rfl
   ·rw[if_neg (fun z=>z.elim hq hb)]at hg;rw[<-hg,if_neg (by simp [hb]),wr (by omega) (by omega)];rfl) (fun g=>by
  unfold P.b7m;dsimp only;rw[if_neg (by simp;omega)]) (by omega)
 exact key
theorem c7y (s:ByteArray) (c:UInt8):(a9n s (c.toNat:Int) (s.size+1)).1.map (·.data.toList)=a5e c s.data.toList:=by
 have hsz:s.size=s.data.toList.length:=by rw[Array.length_toList];rfl
 have hex:∀a b,(s.extract a b).data.toList=(s.data.toList.take b).drop a:=by
  intro a b;simp [ByteArray.data_extract,Array.toList_extract,List.extract_eq_take_drop,List.drop_take]
 have key:∀i,i<=s.size->a5e c s.data.toList=(a9n s (c.toNat:Int) i).1.map (·.data.toList)++f9b ((s.data.toList.take i).drop (a9n s (c.toNat:Int) i).2) (a5e c (s.data.toList.drop i)):=by
  intro i
  induction i with
  |zero=>
   intro _;simp [a9n,f2w (b9t c _)]
  |succ i ih=>
   intro hi;rw[ih (by omega)];obtain⟨q1,q2⟩:=f2i s (c.toNat:Int) i;have hi':i<s.data.toList.length:=by omega
   have hb:a2h s (i:Int)=(s.data.toList[i].toNat:Int):=by
    unfold a2h;rw[a0n _ i _ hi']
   rw[List.drop_eq_getElem_cons hi',a9n,a5e]
   by_cases hc:s.data.toList[i]=c
   ·rw[if_pos hc,if_pos (.inr (by rw[hb,hc]))];simp only[List.map_append,List.map_cons,List.map_nil,hex,List.append_assoc];congr 1;rw[show List.drop (i+1) (List.take (i+1) s.data.toList)=[]from List.drop_eq_nil_of_le (by simp;omega),f2w (b9t c _)];simp [f9b]
   ·rw[if_neg hc,if_neg (by
     rw[hb]
     rintro (h|h)
     ·omega
     ·exact hc (UInt8.toNat_inj.1 (by omega)))]
    rw[f9c,<-List.take_append_getElem hi',List.drop_append_of_le_length (by simp;omega)]
 have h:=key s.size (Nat.le_refl _);rw[h,a9n,if_pos (.inl rfl)];simp only[List.map_append,List.map_cons,List.map_nil,hex];congr 1;rw[show List.drop s.size s.data.toList=[]from List.drop_eq_nil_of_le (by omega)];simp [a5e,f9b]
abbrev P.b7n (x1:Int×List Int×List Int×Unit) (g2:Int×List Int×List Int×Unit->Option (Int×Unit)):Option (Int×Unit):=
 (fun(a:Int) (b c:List Int)=>if decide (a>=0)then if decide (0<=a)then if decide (a<(b.length:Int))then if decide (0<=a)then if decide (a<(c.length:Int))then if(b.getD a.toNat 0) != (c.getD a.toNat 0)then if decide (0<=a)then if decide (a<(b.length:Int))then if decide (0<=a)then if decide (a<(c.length:Int))then if decide ((b.getD a.toNat 0)<(c.getD a.toNat 0))then some ((-1:Int),())else some (1,())else none else none else none else none else g2 (wrap .i64 (a - 1),b,c,())else none else none else none else none else some (0,())) x1.1 x1.2.1 x1.2.2.1
def P.d8w (k:Nat) (x:List Int×List Int×Unit):Option (Int×Unit):=
 if(x.1.length:Int) != (x.2.1.length:Int)then if decide ((x.1.length:Int)<(x.2.1.length:Int))then some ((-1:Int),())else some (1,())else loopP P.b7n k (wrap .i64 ((x.1.length:Int) - 1),x.1,x.2.1,())
def S.a0o (x:((List Int)×((List Int)×Unit))):(Option (Int×Unit)):=if a2r B10 x.1=true/\a2r B10 x.2.1=true/\x.1.length<=1000000000000 then some (b1d (a0c B10 x.1) (a0c B10 x.2.1),())else none
theorem S.e8s (x r) (h:S.a0o x=some r):∃k,P.d8w k x=some r:=by
 obtain⟨xs,ys,u⟩:=x;unfold S.a0o at h;dsimp only at h;split at h
 case isFalse=>cases h
 rename_i hc;obtain⟨cx,cy,hl⟩:=hc;cases h;refine⟨xs.length+1,?_⟩;unfold P.d8w;dsimp only
 by_cases hn:xs.length=ys.length
 ·rw[if_neg (by simp [hn]),wr (by omega) (by omega)];have key:=a0f (k:=xs.length+1) (b:=P.b7n) (n:=xs.length) (st:=fun j=>((xs.length:Int) - 1 - (j:Int),xs,ys,())) (F:=fun j=>some (b1d (a0c B10 (xs.take (xs.length - j))) (a0c B10 (ys.take (xs.length - j))),())) (fun j g hj hg=>by
   unfold P.b7n;dsimp only at hg ⊢;have e1:(xs.length:Int) - 1 - (j:Int)>=0:=by omega
   have e3:(0:Int)<=(xs.length:Int) - 1 - (j:Int):=by omega
   have e4:(xs.length:Int) - 1 - (j:Int)<(xs.length:Int):=by omega
   have e4':(xs.length:Int) - 1 - (j:Int)<(ys.length:Int):=by omega
   simp only[e1,e4,e4',decide_true,if_true];have hi:xs.length - (j+1)<xs.length:=by omega
   have hi':xs.length - (j+1)<ys.length:=by omega
   have e5:(xs.length:Int) - 1 - (j:Int)=((xs.length - (j+1):Nat):Int):=by omega
   have e6:xs.length - j=(xs.length - (j+1))+1:=by omega
   rw[e5,a0n xs _ _ hi,a0n ys _ _ hi',e6];generalize xs.length - (j+1)=i at*
   by_cases hq:xs[i]=ys[i]
   ·rw[if_neg (by simp [hq]),wr (by omega) (by omega)];have e7:((i:Nat):Int) - 1=(xs.length:Int) - 1 - ((j+1:Nat):Int):=by omega
    rw[e7,hg,<-List.take_append_getElem hi,<-List.take_append_getElem hi',a0y,a0y,hq];have hlx:(xs.take i).length=i:=by simp;omega
    have hly:(ys.take i).length=i:=by simp;omega
    rw[hlx,hly];unfold b1d;simp only[Nat.add_lt_add_iff_right]
   ·rw[if_pos (by simp [hq])]
    by_cases hlt:xs[i]<ys[i]
    ·have:=c9s xs ys i hi hi' (a1q cx) (a1q cy) hlt;rw[if_pos (decide_eq_true hlt),b1d,if_pos this]
    ·have:=c9s ys xs i hi' hi (a1q cy) (a1q cx) (by omega);rw[if_neg (by simpa using hlt),b1d,if_neg (by omega),if_pos this]) (fun g=>by
   unfold P.b7n;dsimp only;rw[if_neg (by simp;omega),Nat.sub_self,List.take_zero,List.take_zero];rfl) (by omega)
  rw[show(xs.length:Int) - 1 - ((0:Nat):Int)=(xs.length:Int) - 1 by omega,Nat.sub_zero,List.take_length,List.take_of_length_le (by omega)]at key;exact key
 ·rw[if_pos (by simp;omega)]
  by_cases hlt:xs.length<ys.length
  ·rw[if_pos (decide_eq_true (by omega)),b1d,if_pos (b1e a0d cx cy hlt)]
  ·have:=b1e a0d cy cx (by omega);rw[if_neg (by simp;omega),b1d,if_neg (by omega),if_pos this]
abbrev P.b5o (x1:List Int×Unit) (g2:List Int×Unit->Option (List Int×Unit)):Option (List Int×Unit):=
 if decide ((x1.1.length:Int)>0)then if decide (0<=(wrap .i64 ((x1.1.length:Int) - 1)))then if decide ((wrap .i64 ((x1.1.length:Int) - 1))<(x1.1.length:Int))then if(x1.1.getD (Int.toNat (wrap .i64 ((x1.1.length:Int) - 1))) 0)==0 then if decide (0<=(wrap .i64 ((x1.1.length:Int) - 1)))then if decide ((wrap .i64 ((x1.1.length:Int) - 1))<=(x1.1.length:Int))then if decide (0<=(wrap .i64 ((x1.1.length:Int) - 1)))then g2 (seen x1.1 0 ((Int.toNat (wrap .i64 ((x1.1.length:Int) - 1))) - 0),())else none else none else none else some (x1.1,())else none else none else some (x1.1,())
def P.e3g (k:Nat) (x:List Int×Unit):Option (List Int×Unit):=
 loopP P.b5o k (x.1,())
theorem f4e (n:Nat):∀(xs:List Int) (k:Nat),xs.length=n->n<k->n<=1000000000000->dig B10 xs=true->loopP (X:=((List Int)×Unit)) (R:=((List Int)×Unit)) P.b5o k (xs,())=some (nd B10 (a0c B10 xs),()):=by
 induction n with
 |zero=>
  intro xs k hx hk _ _;have:xs=[]:=List.eq_nil_of_length_eq_zero hx;subst this;obtain⟨k,rfl⟩:∃j,k=j+1:=⟨k - 1,by omega⟩
  rw[a0j];unfold P.b5o;rw[if_neg (by simp)];rw[show a0c B10 []=0 from rfl,a1t a0d]
 |succ n ih=>
  intro xs k hx hk hn hd;obtain⟨k,rfl⟩:∃j,k=j+1:=⟨k - 1,by omega⟩
  rw[a0j];unfold P.b5o;dsimp only;have e0:IntKind.wrap .i64 ((xs.length:Int) - 1)=(n:Int):=by rw[wr (by omega) (by omega)];omega
  have e1:(xs.length:Int)>0:=by omega
  have e2:(0:Int)<=(n:Int):=by omega
  have e3:(n:Int)<(xs.length:Int):=by omega
  have e4:(n:Int)<=(xs.length:Int):=by omega
  rw[e0];simp only[e1,e2,e3,e4,decide_true,if_true];rw[a0n xs n _ (by omega)];have hs:=c3t xs n hx;have hdt:dig B10 (xs.take n++[xs[n]])=true:=by rw[<-hs];exact hd
  by_cases hz:xs[n]=0
  ·rw[if_pos (by simp [hz])];have e5:seen xs 0 ((n:Int).toNat - 0)=xs.take n:=by simp [seen]
   rw[e5];have hdt':=hdt;rw[a1m,Bool.and_eq_true]at hdt';rw[ih (xs.take n) k (by simp;omega) (by omega) (by omega) hdt'.1];have:a0c B10 xs=a0c B10 (xs.take n):=by
    conv=>lhs;rw[hs,hz]
    exact b1y _
   rw[this]
  ·rw[if_neg (by simp [hz])];have:=d1f a0d (xs.take n) xs[n] hdt hz;rw[<-hs]at this;rw[this]
def S.a3x (x:((List Int)×Unit)):(Option ((List Int)×Unit)):=if dig B10 x.1=true/\x.1.length<=1000000000000 then some (nd B10 (a0c B10 x.1),())else none
theorem S.e3h (x r) (h:S.a3x x=some r):∃k,P.e3g k x=some r:=by
 obtain⟨xs,u⟩:=x;unfold S.a3x at h;dsimp only at h;split at h
 case isFalse=>cases h
 rename_i hc;cases h;exact⟨xs.length+1,f4e xs.length xs _ rfl (by omega) hc.2 hc.1⟩
theorem h2u (xs:List Int) (h:dig B10 xs=true) (hl:xs.length<=1000000000000):S.a3x (xs,())=some (nd B10 (a0c B10 xs),()):=by
 unfold S.a3x;dsimp only;rw[if_pos ⟨h,hl⟩]
abbrev P.b7o (x1:Int×List Int×Unit) (g2:Int×List Int×Unit->Option (List Int×Unit)):Option (List Int×Unit):=
 if decide (x1.1>0)then if decide (((x1.2.1.length+(List.length [Int.tmod x1.1 1000000000]))*8)<=140737488355328)then g2 (wrap .i64 (Int.tdiv x1.1 1000000000),x1.2.1++[Int.tmod x1.1 1000000000],())else none else some (x1.2.1,())
def P.d8x (k:Nat) (x:Int×Unit):Option (List Int×Unit):=
 loopP P.b7o k (x.1,[],())
def S.a7c (x:(Int×Unit)):(Option ((List Int)×Unit)):=if 0<=x.1/\x.1<=9223372036854775807 then some (nd B10 x.1.toNat,())else none
theorem e8t (k:Nat):∀(n:Nat) (out:List Int),n<2^k->n<=9223372036854775807->out.length+k<=1000000->loopP (X:=(Int×((List Int)×Unit))) (R:=((List Int)×Unit)) P.b7o (k+1) ((n:Int),(out,()))=some (out++nd B10 n,()):=by
 induction k with
 |zero=>
  intro n out hn _ _;have:n=0:=by omega
  subst this;rw[a0j];unfold P.b7o;rw[if_neg (by simp),a1t a0d,List.append_nil]
 |succ k ih=>
  intro n out hn hm ho;rw[a0j];unfold P.b7o;dsimp only
  by_cases h:n=0
  ·subst h;rw[if_neg (by simp),a1t a0d,List.append_nil]
  ·have e1:(n:Int)>0:=by omega
   have e2:(out.length+(Int.tmod (n:Int) 1000000000::([]:List Int)).length)*8<=140737488355328:=by simp;omega
   rw[if_pos (decide_eq_true e1),if_pos (decide_eq_true e2)];have eT:Int.tdiv (n:Int) 1000000000=((n/1000000000:Nat):Int):=by rw[Int.tdiv_eq_ediv_of_nonneg (by omega)];omega
   have eM:Int.tmod (n:Int) 1000000000=((n%1000000000:Nat):Int):=by rw[Int.tmod_eq_emod_of_nonneg (by omega)];omega
   rw[eT,eM,wr (by omega) (by omega),ih (n/1000000000) _ (by rw[Nat.pow_succ]at hn;omega) (by omega) (by simp;omega),b4y a0d h,List.append_assoc];rfl
theorem S.e8u (x r) (h:S.a7c x=some r):∃k,P.d8x k x=some r:=by
 obtain⟨n,u⟩:=x;unfold S.a7c at h;dsimp only at h;split at h
 case isFalse=>cases h
 rename_i hc;cases h;refine⟨64,?_⟩;unfold P.d8x;dsimp only;have:=e8t 63 n.toNat [] (by
  have:(2:Nat)^63=9223372036854775808:=by decide
  omega) (by omega) (by simp)
 rw[show((n.toNat:Nat):Int)=n by omega]at this;exact this
def P.b4e (k:Nat) (x:List Int×Int×Unit):Option (Int×Unit):=
 if decide (x.2.1<(x.1.length:Int))then if decide (0<=x.2.1)then if decide (x.2.1<(x.1.length:Int))then some (x.1.getD x.2.1.toNat 0,())else none else none else some (0,())
def S.a1s (x:((List Int)×(Int×Unit))):(Option (Int×Unit)):=P.b4e 0 x
theorem S.d8y (x r) (h:S.a1s x=some r):∃k,P.b4e k x=some r:=⟨0,h⟩
def P.c5q (k:Nat) (x:List Int×Unit):Option ((Int×Bool)×Unit):=
 if decide ((x.1.length:Int)>2)then some ((0,false),())else(S.a1s (x.1,0,())).bind fun y0=>(S.a1s (x.1,1,())).bind fun y1=>some ((wrap .i64 (y0.1+(wrap .i64 (1000000000*y1.1))),true),())
theorem h2v (xs:List Int) (i:Nat):S.a1s (xs,((i:Int),()))=some (xs.getD i 0,()):=by
 unfold S.a1s P.b4e;dsimp only
 by_cases h:i<xs.length
 ·have e1:(i:Int)<(xs.length:Int):=by omega
  have e2:(0:Int)<=(i:Int):=by omega
  simp only[e1,e2,decide_true,if_true,Int.toNat_natCast]
 ·rw[if_neg (by simp;omega)];simp [List.getD,List.getElem?_eq_none (Nat.le_of_not_lt h)]
def S.a7d (x:((List Int)×Unit)):(Option ((Int×Bool)×Unit)):=if dig B10 x.1=true/\x.1.length<=1000000000000 then some ((if x.1.length<=2 then((a0c B10 x.1:Nat):Int)else 0,decide (x.1.length<=2)),())else none
theorem S.d8z (x r) (h:S.a7d x=some r):∃k,P.c5q k x=some r:=by
 obtain⟨xs,u⟩:=x;unfold S.a7d at h;dsimp only at h;split at h
 case isFalse=>cases h
 rename_i hc;obtain⟨hd,hl⟩:=hc;cases h;refine⟨0,?_⟩;unfold P.c5q;dsimp only
 by_cases h2:xs.length<=2
 ·rw[if_neg (by simp;omega),if_pos h2,decide_eq_true h2];rw[show S.a1s (xs,((0:Int),()))=_ from h2v xs 0,show S.a1s (xs,((1:Int),()))=_ from h2v xs 1,Option.bind_some,Option.bind_some];dsimp only
  match xs,hd,h2 with
  | [],_,_=>rfl
  | [a],hd,_=>
   rw[a2k]at hd;have h1:a<1000000000:=hd.1.2;have h0:=hd.1.1;show some ((IntKind.wrap .i64 (a+IntKind.wrap .i64 (1000000000*0)),true),())=_;rw[wr (x:=(1000000000:Int)*0) (by omega) (by omega),wr (by omega) (by omega)];simp only[a0c,Option.some.injEq,Prod.mk.injEq,and_true];omega
  | [a,b],hd,_=>
   rw[a2k,a2k]at hd;have h1:a<1000000000:=hd.1.2;have h0:=hd.1.1;have h3:b<1000000000:=hd.2.1.2;have h4:=hd.2.1.1;show some ((IntKind.wrap .i64 (a+IntKind.wrap .i64 (1000000000*b)),true),())=_;rw[wr (x:=(1000000000:Int)*b) (by omega) (by omega),wr (by omega) (by omega)];simp only[a0c,Option.some.injEq,Prod.mk.injEq,and_true];show _=((a.toNat+1000000000*(b.toNat+1000000000*0):Nat):Int)
   omega
  |_::_::_::_,_,h2=>simp at h2
 ·rw[if_pos (decide_eq_true (by omega)),if_neg h2,decide_eq_false h2]
abbrev P.a8d (x1:Int×Int×List Int×Int×Int×List Int×Unit) (g2:Int×Int×List Int×Int×Int×List Int×Unit->Option (List Int×Unit)):Option (List Int×Unit):=
 (fun(a b d e:Int) (c f:List Int)=>if decide (a<b)then if decide (0<=a)then if decide (a<(c.length:Int))then if decide (((f.length+(List.length [Int.tmod (wrap .i64 ((wrap .i64 ((c.getD a.toNat 0)*d))+e)) 1000000000]))*8)<=140737488355328)then g2 (wrap .i64 (a+1),b,c,d,wrap .i64 (Int.tdiv (wrap .i64 ((wrap .i64 ((c.getD a.toNat 0)*d))+e)) 1000000000),f++[Int.tmod (wrap .i64 ((wrap .i64 ((c.getD a.toNat 0)*d))+e)) 1000000000],())else none else none else none else if decide (e>0)then if decide (((f.length+(List.length [e]))*8)<=140737488355328)then some (f++[e],())else none else some (f,())) x1.1 x1.2.1 x1.2.2.2.1 x1.2.2.2.2.1 x1.2.2.1 x1.2.2.2.2.2.1
def P.b7p (k:Nat) (x:List Int×Int×Unit):Option (List Int×Unit):=
 if decide (0<=(wrap .i64 ((x.1.length:Int)+1)))then if decide (((wrap .i64 ((x.1.length:Int)+1))*8)<=281474976710656)then loopP P.a8d k (0,(x.1.length:Int),x.1,x.2.1,0,seen (List.replicate (Int.toNat (wrap .i64 ((x.1.length:Int)+1))) 0) 0 0,())else none else none
def S.a2a (x:((List Int)×(Int×Unit))):(Option ((List Int)×Unit)):=if a2r B10 x.1=true/\0<x.2.1/\x.2.1<=1000000000/\x.1.length<=1000000000000 then some (nd B10 (a0c B10 x.1*x.2.1.toNat),())else none
theorem S.c8p (x r) (h:S.a2a x=some r):∃k,P.b7p k x=some r:=by
 obtain⟨xs,b,u⟩:=x;unfold S.a2a at h;dsimp only at h;split at h
 case isFalse=>cases h
 rename_i hc;obtain⟨hcan,hb0,hb1,hl⟩:=hc;have hd:=a1q hcan;cases h;obtain⟨d,rfl⟩:∃d:Nat,b=(d:Int):=⟨b.toNat,by omega⟩
 refine⟨xs.length+1,?_⟩;unfold P.b7p;dsimp only;rw[wr (by omega) (by omega)];have a1:(0:Int)<=(xs.length:Int)+1:=by omega
 have a3:((xs.length:Int)+1)*8<=281474976710656:=by omega
 rw[if_pos (decide_eq_true a1),if_pos (decide_eq_true a3)];have e0:seen (List.replicate ((xs.length:Int)+1).toNat (0:Int)) 0 (0:Nat)=[]:=by simp [seen]
 rw[e0,Int.toNat_natCast];have key:=a0f (k:=xs.length+1) (b:=P.a8d) (n:=xs.length) (st:=fun i=>((i:Int),(xs.length:Int),xs,(d:Int),((b1f B10 d xs i).2:Int),(b1f B10 d xs i).1,())) (F:=fun i=>some (nd B10 (a0c B10 xs*d),())) (fun i g hi hg=>by
  unfold P.a8d;dsimp only at hg ⊢;obtain⟨q1,q2,q3,q4⟩:=c9u (d:=d) a0d hd i (by omega);have e1:(i:Int)<(xs.length:Int):=by omega
  have e2:(0:Int)<=(i:Int):=by omega
  simp only[e1,e2,decide_true,if_true];have hgD:xs.getD i 0=xs[i]:=by simp [hi]
  have hx:=b6i hd hi;have hx1:xs[i]<1000000000:=hx.2;have hx0:=hx.1;rw[a0n xs i _ hi];rw[b1f,hgD]at hg;generalize hP:b1f B10 d xs i=p at*;obtain⟨z,hz⟩:∃z:Nat,xs[i]=(z:Int):=⟨xs[i].toNat,(Int.toNat_of_nonneg hx0).symm⟩
  rw[hz]at hx1 hg ⊢;rw[Int.toNat_natCast]at hg;have hzd:z*d<=999999999000000000:=Nat.mul_le_mul (show z<=999999999 by omega) (show d<=1000000000 by omega);have em:(z:Int)*(d:Int)=((z*d:Nat):Int):=(Int.natCast_mul _ _).symm;rw[em,wr (x:=((z*d:Nat):Int)) (by omega) (by omega),wr (x:=((z*d:Nat):Int)+(p.2:Int)) (by omega) (by omega)];have eT:Int.tdiv (((z*d:Nat):Int)+(p.2:Int)) 1000000000=(((z*d+p.2)/B10:Nat):Int):=by
   rw[Int.tdiv_eq_ediv_of_nonneg (by omega)];show _=(((z*d+p.2)/1000000000:Nat):Int)
   omega
  have eM:Int.tmod (((z*d:Nat):Int)+(p.2:Int)) 1000000000=(((z*d+p.2)%B10:Nat):Int):=by
   rw[Int.tmod_eq_emod_of_nonneg (by omega)];show _=(((z*d+p.2)%1000000000:Nat):Int)
   omega
  have hq:(z*d+p.2)/B10<=9223372036854775807:=Nat.le_trans (Nat.div_le_self _ _) (by omega);have hcap:(p.1.length+([Int.tmod (((z*d:Nat):Int)+(p.2:Int)) 1000000000]:List Int).length)*8<=140737488355328:=by
   rw[q2];simp;omega
  rw[if_pos (decide_eq_true hcap),eT,eM,wr (x:=(((z*d+p.2)/B10:Nat):Int)) (Int.le_trans (by decide) (Int.natCast_nonneg _)) (Int.ofNat_le.2 hq),wr (by omega) (by omega)];exact hg) (fun g=>by
  unfold P.a8d;dsimp only;obtain⟨q1,q2,q3,q4⟩:=c9u (d:=d) a0d hd xs.length (Nat.le_refl _);rw[List.take_length]at q3;generalize hP:b1f B10 d xs xs.length=p at*;rw[if_neg (by simp)]
  by_cases hz:p.2=0
  ·rw[if_neg (by simp [hz])];rw[hz,Nat.mul_zero,Nat.add_zero]at q3;rw[<-q3];rcases List.eq_nil_or_concat p.1 with e|_
   ·rw[e];show _=some (nd B10 0,());rw[a1t a0d]
   ·by_cases hx:xs=[]
    ·subst hx;have:p.1=[]:=List.eq_nil_of_length_eq_zero q2;rw[this];show _=some (nd B10 0,());rw[a1t a0d]
    ·have hpos:0<xs.length:=List.length_pos_iff.2 hx;have hv:a0c B10 xs≠0:=by
      intro q;have:=a1d hcan;rw[q,a1t a0d]at this;exact hx this.symm
     have hlow:=e4h a0d hv;rw[a1d hcan]at hlow;have hne:p.1≠ []:=by
      intro q;rw[q]at q2;simp at q2;omega
     have hge:B10^(p.1.length - 1)<=a0c B10 p.1:=by
      rw[q2,q3];exact Nat.le_trans hlow (Nat.le_mul_of_pos_right _ (by omega))
     rw[f8q a0d q1 hne hge]
  ·have e1:(p.2:Int)>0:=by omega
   have hcap:(p.1.length+([(p.2:Int)]:List Int).length)*8<=140737488355328:=by
    rw[q2];simp;omega
   rw[if_pos (decide_eq_true e1),if_pos (decide_eq_true hcap),<-q3];have hlt:p.2<B10:=by
    have h1:=a1n hd;have h2:B10^xs.length*p.2<B10^xs.length*d:=by
     have:a0c B10 xs*d<B10^xs.length*d:=Nat.mul_lt_mul_of_pos_right h1 (by omega);omega
    have:=Nat.lt_of_mul_lt_mul_left h2;show p.2<1000000000;omega
   have hdd:dig B10 (p.1++[(p.2:Int)])=true:=by
    rw[a1m,q1,Bool.true_and,a2k];exact⟨⟨Int.natCast_nonneg _,Int.ofNat_lt.2 hlt⟩,rfl⟩
   have:=d1f a0d p.1 (p.2:Int) hdd (by omega);rw[a0y,q2]at this;have e2:a0c B10 [(p.2:Int)]=p.2:=by simp [a0c]
   rw[e2]at this;rw[this]) (by omega)
 exact key
abbrev P.a8e (x1:Int×Int×List Int×List Int×Int×Unit) (g2:Int×Int×List Int×List Int×Int×Unit->Option ((List Int×Int)×Unit)):Option ((List Int×Int)×Unit):=
 (fun(a b e:Int) (c d:List Int)=>if decide (a>=0)then if decide (0<=a)then if decide (a<(c.length:Int))then if decide (e=0)then none else if decide (0<=a)then if decide (a<(d.length:Int))then if decide (e=0)then none else g2 (wrap .i64 (a - 1),Int.tmod (wrap .i64 ((wrap .i64 (b*1000000000))+(c.getD a.toNat 0))) e,c,d.set (0+a.toNat) (wrap .i64 (Int.tdiv (wrap .i64 ((wrap .i64 (b*1000000000))+(c.getD a.toNat 0))) e)),e,())else none else none else none else none else(S.a3x (d,())).bind fun y3=>some ((y3.1,b),())) x1.1 x1.2.1 x1.2.2.2.2.1 x1.2.2.1 x1.2.2.2.1
def P.b7q (k:Nat) (x:List Int×Int×Unit):Option ((List Int×Int)×Unit):=
 if decide (0<=(x.1.length:Int))then if decide ((x.1.length:Int)<=(x.1.length:Int))then if decide (((x.1.length:Int)*8)<=281474976710656)then loopP P.a8e k (wrap .i64 ((x.1.length:Int) - 1),0,x.1,List.replicate (Int.toNat (x.1.length:Int)) 0,x.2.1,())else none else none else none
def S.a2u (x:((List Int)×(Int×Unit))):(Option (((List Int)×Int)×Unit)):=if dig B10 x.1=true/\0<x.2.1/\x.2.1<1000000001/\x.1.length<=1000000000000 then some ((nd B10 (a0c B10 x.1/x.2.1.toNat),((a0c B10 x.1%x.2.1.toNat:Nat):Int)),())else none
theorem S.c8q (x r) (h:S.a2u x=some r):∃k,P.b7q k x=some r:=by
 obtain⟨xs,b,u⟩:=x;unfold S.a2u at h;dsimp only at h;split at h
 case isFalse=>cases h
 rename_i hc;obtain⟨hd,hb0,hb1,hl⟩:=hc;cases h;refine⟨xs.length+1,?_⟩;unfold P.b7q;dsimp only;have a1:(0:Int)<=(xs.length:Int):=by omega
 have a2:(xs.length:Int)<=(xs.length:Int):=by omega
 have a3:(xs.length:Int)*8<=281474976710656:=by omega
 simp only[a1,a2,a3,decide_true,if_true];rw[wr (by omega) (by omega),Int.toNat_natCast];have hdr:∀m,dig B10 (xs.drop m)=true:=by
  intro m;have:=List.take_append_drop m xs;have hd':=hd;rw[<-this,a1m,Bool.and_eq_true]at hd';exact hd'.2
 have hbN:0<b.toNat:=by omega
 have key:=a0f (k:=xs.length+1) (b:=P.a8e) (n:=xs.length) (st:=fun j=>((xs.length:Int) - 1 - (j:Int),((c9t B10 b.toNat (xs.drop (xs.length - j))).2:Int),xs,List.replicate (xs.length - j) (0:Int)++(c9t B10 b.toNat (xs.drop (xs.length - j))).1,b,())) (F:=fun j=>some ((nd B10 (a0c B10 xs/b.toNat),((a0c B10 xs%b.toNat:Nat):Int)),())) (fun j g hj hg=>by
  unfold P.a8e;dsimp only at hg ⊢;obtain⟨q1,q2,q3,q4⟩:=d9p B10 b.toNat hbN (xs.drop (xs.length - j)) (hdr _);have hi:xs.length - (j+1)<xs.length:=by omega
  have e5:(xs.length:Int) - 1 - (j:Int)=((xs.length - (j+1):Nat):Int):=by omega
  have e6:xs.drop (xs.length - (j+1))=xs[xs.length - (j+1)]::xs.drop (xs.length - j):=by
   rw[List.drop_eq_getElem_cons hi];congr 2;omega
  have e7:xs.length - j=(xs.length - (j+1))+1:=by omega
  have hlen:(List.replicate (xs.length - j) (0:Int)++(c9t B10 b.toNat (xs.drop (xs.length - j))).1).length=xs.length:=by
   rw[List.length_append,List.length_replicate,q2,List.length_drop];omega
  have hx:=b6i hd hi;have hx1:xs[xs.length - (j+1)]<1000000000:=hx.2;have hx0:=hx.1;have hm:(c9t B10 b.toNat (xs.drop (xs.length - j))).2<b.toNat:=by rw[q4];exact Nat.mod_lt _ hbN
  rw[e6]at hg;rw[hlen,e5,a0n xs _ _ hi];have a1:((xs.length - (j+1):Nat):Int)>=0:=by omega
  have a2:(0:Int)<=((xs.length - (j+1):Nat):Int):=by omega
  have a3:((xs.length - (j+1):Nat):Int)<(xs.length:Int):=by omega
  have a4:¬(b=0):=by omega
  simp only[a1,a3,a4,decide_true,decide_false,if_true,if_false,Bool.false_eq_true];generalize hR:(c9t B10 b.toNat (xs.drop (xs.length - j))).2=R at*;generalize hX:xs[xs.length - (j+1)]=X at*;have hRX:(R:Int)*1000000000+X<b*1000000000:=by omega
  rw[wr (x:=(R:Int)*1000000000) (by omega) (by omega),wr (x:=(R:Int)*1000000000+X) (by omega) (by omega)];have eT:Int.tdiv ((R:Int)*1000000000+X) b=(((R*B10+X.toNat)/b.toNat:Nat):Int):=by
   rw[Int.tdiv_eq_ediv_of_nonneg (by omega)];have:(R:Int)*1000000000+X=((R*1000000000+X.toNat:Nat):Int):=by omega
   rw[this];have hb:b=((b.toNat:Nat):Int):=by omega
   conv=>lhs;rw[hb]
   exact(Int.natCast_ediv _ _).symm
  have eM:Int.tmod ((R:Int)*1000000000+X) b=(((R*B10+X.toNat)%b.toNat:Nat):Int):=by
   rw[Int.tmod_eq_emod_of_nonneg (by omega)];have:(R:Int)*1000000000+X=((R*1000000000+X.toNat:Nat):Int):=by omega
   rw[this];have hb:b=((b.toNat:Nat):Int):=by omega
   conv=>lhs;rw[hb]
   exact(Int.natCast_emod _ _).symm
  have hQ:(R*B10+X.toNat)/b.toNat<B10:=(Nat.div_lt_iff_lt_mul hbN).2 (by
   show R*1000000000+X.toNat<1000000000*b.toNat;omega)
  have hQ':(R*B10+X.toNat)/b.toNat<1000000000:=hQ;have z0:(0:Int)<=(((R*B10+X.toNat)/b.toNat:Nat):Int):=Int.natCast_nonneg _;have z1:(((R*B10+X.toNat)/b.toNat:Nat):Int)<1000000000:=Int.ofNat_lt.2 hQ';rw[eT,eM,wr (Int.le_trans (by decide) z0) (Int.le_of_lt (Int.lt_trans z1 (by decide))),wr (x:=((xs.length - (j+1):Nat):Int) - 1) (by omega) (by omega),Nat.zero_add,Int.toNat_natCast];have hset:∀(Q:List Int) (v:Int),(List.replicate (xs.length - j) (0:Int)++Q).set (xs.length - (j+1)) v=List.replicate (xs.length - (j+1)) 0++v::Q:=by
   intro Q v;rw[e7];exact d9q _ _ _
  rw[hset,<-hg];congr 1;simp only[Prod.mk.injEq,c9t];rw[hR]
  and_intros<;>first|rfl|omega|trivial) (fun g=>by
  unfold P.a8e;dsimp only;obtain⟨q1,q2,q3,q4⟩:=d9p B10 b.toNat hbN xs hd;rw[if_neg (by simp;omega),Nat.sub_self,List.drop_zero,List.replicate_zero,List.nil_append,h2u _ q1 (by omega),Option.bind_some,q3,q4]) (by omega)
 rw[show(xs.length:Int) - 1 - ((0:Nat):Int)=(xs.length:Int) - 1 by omega,Nat.sub_zero,List.drop_length]at key;simpa [c9t]using key
abbrev s_l01TakeOff.A:=Int×Int×List Int×List Int×Int×Int×Int×List Int×Unit
abbrev P.a9o (x1:s_l01TakeOff.A) (g2:s_l01TakeOff.A->Option (Bool×List Int×Unit)):Option (Bool×List Int×Unit):=
 (fun(a b e f h:Int) (c d i:List Int)=>if decide (a<b)then if decide (0<=a)then if decide (a<(c.length:Int))then if decide (0<=(wrap .i64 (e+a)))then if decide ((wrap .i64 (e+a))<(d.length:Int))then if decide ((wrap .i64 ((wrap .i64 ((d.getD (0+(Int.toNat (wrap .i64 (e+a)))) 0) - (Int.tmod (wrap .i64 ((c.getD a.toNat 0)*f)) 1000000000))) - h))<0)then if decide ((wrap .i64 ((wrap .i64 ((wrap .i64 ((d.getD (0+(Int.toNat (wrap .i64 (e+a)))) 0) - (Int.tmod (wrap .i64 ((c.getD a.toNat 0)*f)) 1000000000))) - h))+1000000000))<0)then if decide (0<=(wrap .i64 (e+a)))then if decide ((wrap .i64 (e+a))<(d.length:Int))then g2 (wrap .i64 (a+1),b,c,d.set (0+(Int.toNat (wrap .i64 (e+a)))) (wrap .i64 ((wrap .i64 ((wrap .i64 ((wrap .i64 ((d.getD (0+(Int.toNat (wrap .i64 (e+a)))) 0) - (Int.tmod (wrap .i64 ((c.getD a.toNat 0)*f)) 1000000000))) - h))+1000000000))+1000000000)),e,f,wrap .i64 ((wrap .i64 ((wrap .i64 (Int.tdiv (wrap .i64 ((c.getD a.toNat 0)*f)) 1000000000))+1))+1),i,())else none else none else if decide (0<=(wrap .i64 (e+a)))then if decide ((wrap .i64 (e+a))<(d.length:Int))then g2 (wrap .i64 (a+1),b,c,d.set (0+(Int.toNat (wrap .i64 (e+a)))) (wrap .i64 ((wrap .i64 ((wrap .i64 ((d.getD (0+(Int.toNat (wrap .i64 (e+a)))) 0) - (Int.tmod (wrap .i64 ((c.getD a.toNat 0)*f)) 1000000000))) - h))+1000000000)),e,f,wrap .i64 ((wrap .i64 (Int.tdiv (wrap .i64 ((c.getD a.toNat 0)*f)) 1000000000))+1),i,())else none else none else if decide (0<=(wrap .i64 (e+a)))then if decide ((wrap .i64 (e+a))<(d.length:Int))then g2 (wrap .i64 (a+1),b,c,d.set (0+(Int.toNat (wrap .i64 (e+a)))) (wrap .i64 ((wrap .i64 ((d.getD (0+(Int.toNat (wrap .i64 (e+a)))) 0) - (Int.tmod (wrap .i64 ((c.getD a.toNat 0)*f)) 1000000000))) - h)),e,f,wrap .i64 (Int.tdiv (wrap .i64 ((c.getD a.toNat 0)*f)) 1000000000),i,())else none else none else none else none else none else none else if decide (0<=(wrap .i64 (e+(i.length:Int))))then if decide ((wrap .i64 (e+(i.length:Int)))<(d.length:Int))then if decide (0<=(wrap .i64 (e+(i.length:Int))))then if decide ((wrap .i64 (e+(i.length:Int)))<(d.length:Int))then if decide (0<=(wrap .i64 (e+(i.length:Int))))then if decide ((wrap .i64 (e+(i.length:Int)))<(List.length (d.set (0+(Int.toNat (wrap .i64 (e+(i.length:Int))))) (wrap .i64 ((d.getD (0+(Int.toNat (wrap .i64 (e+(i.length:Int))))) 0) - h))):Int))then some (decide ((List.getD (d.set (0+(Int.toNat (wrap .i64 (e+(i.length:Int))))) (wrap .i64 ((d.getD (0+(Int.toNat (wrap .i64 (e+(i.length:Int))))) 0) - h))) (0+(Int.toNat (wrap .i64 (e+(i.length:Int))))) 0)<0),d.set (0+(Int.toNat (wrap .i64 (e+(i.length:Int))))) (wrap .i64 ((d.getD (0+(Int.toNat (wrap .i64 (e+(i.length:Int))))) 0) - h)),())else none else none else none else none else none else none) x1.1 x1.2.1 x1.2.2.2.2.1 x1.2.2.2.2.2.1 x1.2.2.2.2.2.2.1 x1.2.2.1 x1.2.2.2.1 x1.2.2.2.2.2.2.2.1
def P.b5p (k:Nat) (x:List Int×List Int×Int×Int×Unit):Option (Bool×List Int×Unit):=
 loopP P.a9o k (0,(x.2.1.length:Int),x.2.1,x.1,x.2.2.1,x.2.2.2.1,0,x.2.1,())
def S.a5c (x:((List Int)×((List Int)×(Int×(Int×Unit))))):(Option (Bool×((List Int)×Unit))):=
 if 0<=x.2.2.1/\x.2.2.1.toNat+x.2.1.length<x.1.length/\dig B10 ((x.1.drop x.2.2.1.toNat).take x.2.1.length)=true/\dig B10 x.2.1=true/\0<=x.1.getD (x.2.2.1.toNat+x.2.1.length) 0/\x.1.getD (x.2.2.1.toNat+x.2.1.length) 0<=1000000000/\0<=x.2.2.2.1/\x.2.2.2.1<1000000000/\x.1.length<=1000000000000 then
  let T:Int:=((a0c B10 ((x.1.drop x.2.2.1.toNat).take x.2.1.length):Nat):Int)+((B10^x.2.1.length:Nat):Int)*x.1.getD (x.2.2.1.toNat+x.2.1.length) 0 - ((a0c B10 x.2.1*x.2.2.2.1.toNat:Nat):Int)
  some (decide (T/((B10^x.2.1.length:Nat):Int)<0),(x.1.take x.2.2.1.toNat++fd B10 x.2.1.length (T%((B10^x.2.1.length:Nat):Int)).toNat)++(T/((B10^x.2.1.length:Nat):Int))::x.1.drop (x.2.2.1.toNat+x.2.1.length+1),())
 else none
theorem e3i (us vs W:List Int) (j t:Nat) (hW:(us.drop j).take vs.length=W) (hl:j+vs.length<us.length) (hw:dig B10 W=true) (hv:dig B10 vs=true) (ht0:0<=us.getD (j+vs.length) 0) (ht1:us.getD (j+vs.length) 0<=1000000000) (hd1:(t:Int)<1000000000) (hbig:us.length<=1000000000000):
  P.b5p (vs.length+1) (us,(vs,((j:Int),((t:Int),()))))=some (decide (((((a0c B10 W:Nat):Int)+((B10^vs.length:Nat):Int)*us.getD (j+vs.length) 0 - ((a0c B10 vs*t:Nat):Int))/((B10^vs.length:Nat):Int))<0),(us.take j++fd B10 vs.length ((((a0c B10 W:Nat):Int)+((B10^vs.length:Nat):Int)*us.getD (j+vs.length) 0 - ((a0c B10 vs*t:Nat):Int))%((B10^vs.length:Nat):Int)).toNat)++((((a0c B10 W:Nat):Int)+((B10^vs.length:Nat):Int)*us.getD (j+vs.length) 0 - ((a0c B10 vs*t:Nat):Int))/((B10^vs.length:Nat):Int))::us.drop (j+vs.length+1),()):=by
 have hWg:∀i,i<vs.length->W.getD i 0=us.getD (j+i) 0:=by
  intro i hi;rw[<-hW,f2q hi]
 have hWl:W.length=vs.length:=by rw[<-hW];simp;omega
 have htB:t<B10:=by show t<1000000000;omega
 unfold P.b5p;dsimp only;have key:=a0f (k:=vs.length+1) (b:=P.a9o) (n:=vs.length) (st:=fun i=>((i:Int),(vs.length:Int),vs,(us.take j++(b7z B10 t W vs i).1)++us.drop (j+i),(j:Int),(t:Int),((b7z B10 t W vs i).2:Int),vs,())) (F:=fun i=>some (decide (((((a0c B10 W:Nat):Int)+((B10^vs.length:Nat):Int)*us.getD (j+vs.length) 0 - ((a0c B10 vs*t:Nat):Int))/((B10^vs.length:Nat):Int))<0),(us.take j++fd B10 vs.length ((((a0c B10 W:Nat):Int)+((B10^vs.length:Nat):Int)*us.getD (j+vs.length) 0 - ((a0c B10 vs*t:Nat):Int))%((B10^vs.length:Nat):Int)).toNat)++((((a0c B10 W:Nat):Int)+((B10^vs.length:Nat):Int)*us.getD (j+vs.length) 0 - ((a0c B10 vs*t:Nat):Int))/((B10^vs.length:Nat):Int))::us.drop (j+vs.length+1),())) (fun i g hi hg=>by
  unfold P.a9o;dsimp only at hg ⊢;refine Eq.trans ?_ hg;clear hg;obtain⟨q1,q2,q3,q4⟩:=f2p (t:=t) a0d htB hw hv i;have gx:=a1b (B:=B10) (by decide) hw i;have gy:=a1b (B:=B10) (by decide) hv i;have gx1:W.getD i 0<1000000000:=gx.2;have gy1:vs.getD i 0<1000000000:=gy.2;have gx0:=gx.1;have gy0:=gy.1;have hAl:(us.take j++(b7z B10 t W vs i).1).length=j+i:=by rw[List.length_append,q2,List.length_take];omega
  have hlen:((us.take j++(b7z B10 t W vs i).1)++us.drop (j+i)).length=us.length:=by rw[List.length_append,hAl,List.length_drop];omega
  have e1:(i:Int)<(vs.length:Int):=by omega
  have e2:(0:Int)<=(i:Int):=by omega
  have e3:(0:Int)<=((j+i:Nat):Int):=by omega
  have e4:((j+i:Nat):Int)<(us.length:Int):=by omega
  rw[hlen,<-Int.natCast_add,wr (x:=((j+i:Nat):Int)) (by omega) (by omega)];simp only[e1,e2,e3,e4,decide_true,if_true,Nat.zero_add,Int.toNat_natCast];rw[a2w (xs:=us) (i:=j+i) (by omega),b1g hAl];simp only[b3e hAl];rw[<-hWg i hi,b7z];dsimp only;generalize W.getD i 0=x at*;generalize vs.getD i 0=y at*;generalize b7z B10 t W vs i=p at*;obtain⟨pl,c0⟩:=p;dsimp only at*;obtain⟨Y,rfl⟩:∃Y:Nat,y=(Y:Int):=⟨y.toNat,by omega⟩
  rw[Int.toNat_natCast];have hYt:Y*t<=999999999*999999999:=Nat.mul_le_mul (by omega) (by omega);rw[<-Int.natCast_mul,wr (x:=((Y*t:Nat):Int)) (by omega) (by omega),Int.tmod_eq_emod_of_nonneg (by omega),Int.tdiv_eq_ediv_of_nonneg (by omega)];generalize Y*t=m at*;have e8:((m:Nat):Int)%1000000000=((m%B10:Nat):Int):=by
   show _=((m%1000000000:Nat):Int)
   omega
  have e9:((m:Nat):Int)/1000000000=((m/B10:Nat):Int):=by
   show _=((m/1000000000:Nat):Int)
   omega
  rw[e8,e9];have b1:m%B10<1000000000:=Nat.mod_lt _ (by decide);have b2:m/B10<=1000000000:=by
   show m/1000000000<=1000000000;omega
  generalize m%B10=lo at*;generalize m/B10=hi' at*;rw[wr (x:=x - (lo:Int)) (by omega) (by omega),wr (x:=x - (lo:Int) - (c0:Int)) (by omega) (by omega),wr (x:=x - (lo:Int) - (c0:Int)+1000000000) (by omega) (by omega),wr (x:=x - (lo:Int) - (c0:Int)+1000000000+1000000000) (by omega) (by omega),wr (x:=(hi':Int)) (by omega) (by omega),wr (x:=(hi':Int)+1) (by omega) (by omega),wr (x:=(hi':Int)+1+1) (by omega) (by omega),wr (x:=(i:Int)+1) (by omega) (by omega)];have eB:((B10:Nat):Int)=1000000000:=rfl;rw[eB,<-Nat.add_assoc j i 1,<-List.append_assoc (us.take j)]
  by_cases hn:x - (lo:Int) - (c0:Int)<0
  ·rw[if_pos (decide_eq_true hn),if_pos hn]
   by_cases hn2:x - (lo:Int) - (c0:Int)+1000000000<0
   ·rw[if_pos (decide_eq_true hn2),if_pos hn2,show x - (lo:Int) - (c0:Int)+1000000000+1000000000=(x - (lo:Int) - (c0:Int))%1000000000 by omega];rfl
   ·rw[if_neg (by simpa using hn2),if_neg hn2,show x - (lo:Int) - (c0:Int)+1000000000=(x - (lo:Int) - (c0:Int))%1000000000 by omega];rfl
  ·rw[if_neg (by simpa using hn),if_neg hn];have e11:(x - (lo:Int) - (c0:Int))%1000000000=x - (lo:Int) - (c0:Int):=by omega
   rw[e11];rfl) (fun g=>by
  unfold P.a9o;dsimp only;obtain⟨q1,q2,q3,q4⟩:=f2p (t:=t) a0d htB hw hv vs.length;rw[List.take_length,<-hWl,List.take_length,hWl]at q3;have hAl:(us.take j++(b7z B10 t W vs vs.length).1).length=j+vs.length:=by rw[List.length_append,q2,List.length_take];omega
  have hlen:((us.take j++(b7z B10 t W vs vs.length).1)++us.drop (j+vs.length)).length=us.length:=by rw[List.length_append,hAl,List.length_drop];omega
  have e3:(0:Int)<=((j+vs.length:Nat):Int):=by omega
  have e4:((j+vs.length:Nat):Int)<(us.length:Int):=by omega
  have e5:¬((vs.length:Int)<(vs.length:Int)):=by omega
  rw[<-Int.natCast_add,wr (x:=((j+vs.length:Nat):Int)) (by omega) (by omega)];simp only[e3,e4,e5,decide_true,decide_false,if_true,Nat.zero_add,Int.toNat_natCast,List.length_set,hlen,Bool.false_eq_true,if_false];rw[a2w (xs:=us) (i:=j+vs.length) (by omega),b1g hAl,b3e hAl,List.append_assoc _ [_],List.singleton_append,b1g hAl];generalize b7z B10 t W vs vs.length=p at*;obtain⟨pl,c0⟩:=p;dsimp only at*;generalize us.getD (j+vs.length) 0=top at*;rw[wr (x:=top - (c0:Int)) (by omega) (by omega)];have hlt:=a1n q1;rw[q2]at hlt;have eT:((a0c B10 W:Nat):Int)+((B10^vs.length:Nat):Int)*top - ((a0c B10 vs*t:Nat):Int)=((a0c B10 pl:Nat):Int)+((B10^vs.length:Nat):Int)*(top - (c0:Int)):=by
   rw[Int.mul_sub,<-Int.natCast_mul];omega
  rw[eT,(b1z hlt _).1,(b1z hlt _).2,Int.toNat_natCast,<-f4v a0d q1 q2 rfl]) (by omega)
 have e0:(us.take j++(b7z B10 t W vs 0).1)++us.drop (j+0)=us:=by
  show(us.take j++[])++us.drop j=us;rw[List.append_nil,List.take_append_drop]
 rw[e0]at key;exact key
theorem S.d0s (x r) (h:S.a5c x=some r):∃k,P.b5p k x=some r:=by
 obtain⟨us,vs,j',d',u⟩:=x;unfold S.a5c at h;dsimp only at h;split at h
 case isFalse=>cases h
 rename_i hc;obtain⟨hj0,hl,hw,hv,ht0,ht1,hd0,hd1,hbig⟩:=hc;obtain⟨j,rfl⟩:∃d:Nat,j'=(d:Int):=⟨j'.toNat,by omega⟩
 obtain⟨t,rfl⟩:∃d:Nat,d'=(d:Int):=⟨d'.toNat,by omega⟩
 refine⟨vs.length+1,?_⟩;rw[<-h];exact e3i us vs _ j t rfl hl hw hv ht0 ht1 hd1 hbig
abbrev P.a9p (x1:Int×Int×List Int×List Int×Int×Int×List Int×Unit) (g2:Int×Int×List Int×List Int×Int×Int×List Int×Unit->Option (Unit×List Int×Unit)):Option (Unit×List Int×Unit):=
 (fun(a b e f:Int) (c d h:List Int)=>if decide (a<b)then if decide (0<=a)then if decide (a<(c.length:Int))then if decide (0<=(wrap .i64 (e+a)))then if decide ((wrap .i64 (e+a))<(d.length:Int))then if decide (0<=(wrap .i64 (e+a)))then if decide ((wrap .i64 (e+a))<(d.length:Int))then g2 (wrap .i64 (a+1),b,c,d.set (0+(Int.toNat (wrap .i64 (e+a)))) (Int.tmod (wrap .i64 ((wrap .i64 ((d.getD (0+(Int.toNat (wrap .i64 (e+a)))) 0)+(c.getD a.toNat 0)))+f)) 1000000000),e,wrap .i64 (Int.tdiv (wrap .i64 ((wrap .i64 ((d.getD (0+(Int.toNat (wrap .i64 (e+a)))) 0)+(c.getD a.toNat 0)))+f)) 1000000000),h,())else none else none else none else none else none else none else if decide (0<=(wrap .i64 (e+(h.length:Int))))then if decide ((wrap .i64 (e+(h.length:Int)))<(d.length:Int))then if decide (0<=(wrap .i64 (e+(h.length:Int))))then if decide ((wrap .i64 (e+(h.length:Int)))<(d.length:Int))then some ((),d.set (0+(Int.toNat (wrap .i64 (e+(h.length:Int))))) (wrap .i64 ((d.getD (0+(Int.toNat (wrap .i64 (e+(h.length:Int))))) 0)+f)),())else none else none else none else none) x1.1 x1.2.1 x1.2.2.2.2.1 x1.2.2.2.2.2.1 x1.2.2.1 x1.2.2.2.1 x1.2.2.2.2.2.2.1
def P.b5q (k:Nat) (x:List Int×List Int×Int×Unit):Option (Unit×List Int×Unit):=
 loopP P.a9p k (0,(x.2.1.length:Int),x.2.1,x.1,x.2.2.1,0,x.2.1,())
def S.a5d (x:((List Int)×((List Int)×(Int×Unit)))):(Option (Unit×((List Int)×Unit))):=
 if 0<=x.2.2.1/\x.2.2.1.toNat+x.2.1.length<x.1.length/\dig B10 ((x.1.drop x.2.2.1.toNat).take x.2.1.length)=true/\dig B10 x.2.1=true/\ -1000000000<=x.1.getD (x.2.2.1.toNat+x.2.1.length) 0/\x.1.getD (x.2.2.1.toNat+x.2.1.length) 0<=1000000000/\x.1.length<=1000000000000 then
  let T:Int:=((a0c B10 ((x.1.drop x.2.2.1.toNat).take x.2.1.length):Nat):Int)+((B10^x.2.1.length:Nat):Int)*x.1.getD (x.2.2.1.toNat+x.2.1.length) 0+((a0c B10 x.2.1:Nat):Int)
  some ((),(x.1.take x.2.2.1.toNat++fd B10 x.2.1.length (T%((B10^x.2.1.length:Nat):Int)).toNat)++(T/((B10^x.2.1.length:Nat):Int))::x.1.drop (x.2.2.1.toNat+x.2.1.length+1),())
 else none
theorem e3j (us vs W:List Int) (j:Nat) (hW:(us.drop j).take vs.length=W) (hl:j+vs.length<us.length) (hw:dig B10 W=true) (hv:dig B10 vs=true) (ht0: -1000000000<=us.getD (j+vs.length) 0) (ht1:us.getD (j+vs.length) 0<=1000000000) (hbig:us.length<=1000000000000):
  P.b5q (vs.length+1) (us,(vs,((j:Int),())))=some ((),(us.take j++fd B10 vs.length ((((a0c B10 W:Nat):Int)+((B10^vs.length:Nat):Int)*us.getD (j+vs.length) 0+((a0c B10 vs:Nat):Int))%((B10^vs.length:Nat):Int)).toNat)++((((a0c B10 W:Nat):Int)+((B10^vs.length:Nat):Int)*us.getD (j+vs.length) 0+((a0c B10 vs:Nat):Int))/((B10^vs.length:Nat):Int))::us.drop (j+vs.length+1),()):=by
 have hWg:∀i,i<vs.length->W.getD i 0=us.getD (j+i) 0:=by
  intro i hi;rw[<-hW,f2q hi]
 have hWl:W.length=vs.length:=by rw[<-hW];simp;omega
 unfold P.b5q;dsimp only;have key:=a0f (k:=vs.length+1) (b:=P.a9p) (n:=vs.length) (st:=fun i=>((i:Int),(vs.length:Int),vs,(us.take j++(a1e B10 W vs i).1)++us.drop (j+i),(j:Int),((a1e B10 W vs i).2:Int),vs,())) (F:=fun i=>some ((),(us.take j++fd B10 vs.length ((((a0c B10 W:Nat):Int)+((B10^vs.length:Nat):Int)*us.getD (j+vs.length) 0+((a0c B10 vs:Nat):Int))%((B10^vs.length:Nat):Int)).toNat)++((((a0c B10 W:Nat):Int)+((B10^vs.length:Nat):Int)*us.getD (j+vs.length) 0+((a0c B10 vs:Nat):Int))/((B10^vs.length:Nat):Int))::us.drop (j+vs.length+1),())) (fun i g hi hg=>by
  unfold P.a9p;dsimp only at hg ⊢;refine Eq.trans ?_ hg;clear hg;obtain⟨q1,q2,q3,q4⟩:=b3o a0d hw hv i;have gx:=a1b (B:=B10) (by decide) hw i;have gy:=a1b (B:=B10) (by decide) hv i;have gx1:W.getD i 0<1000000000:=gx.2;have gy1:vs.getD i 0<1000000000:=gy.2;have gx0:=gx.1;have gy0:=gy.1;have hAl:(us.take j++(a1e B10 W vs i).1).length=j+i:=by rw[List.length_append,q2,List.length_take];omega
  have hlen:((us.take j++(a1e B10 W vs i).1)++us.drop (j+i)).length=us.length:=by rw[List.length_append,hAl,List.length_drop];omega
  have e1:(i:Int)<(vs.length:Int):=by omega
  have e2:(0:Int)<=(i:Int):=by omega
  have e3:(0:Int)<=((j+i:Nat):Int):=by omega
  have e4:((j+i:Nat):Int)<(us.length:Int):=by omega
  rw[hlen,<-Int.natCast_add,wr (x:=((j+i:Nat):Int)) (by omega) (by omega)];simp only[e1,e2,e3,e4,decide_true,if_true,Nat.zero_add,Int.toNat_natCast];rw[a2w (xs:=us) (i:=j+i) (by omega),b1g hAl];simp only[b3e hAl];rw[<-hWg i hi,a1e];dsimp only;generalize W.getD i 0=x at*;generalize vs.getD i 0=y at*;generalize a1e B10 W vs i=p at*;obtain⟨pl,c0⟩:=p;dsimp only at*;obtain⟨X,rfl⟩:∃Y:Nat,x=(Y:Int):=⟨x.toNat,by omega⟩
  obtain⟨Y,rfl⟩:∃Y:Nat,y=(Y:Int):=⟨y.toNat,by omega⟩
  rw[Int.toNat_natCast,Int.toNat_natCast];rw[wr (x:=(X:Int)+(Y:Int)) (by omega) (by omega),wr (x:=(X:Int)+(Y:Int)+(c0:Int)) (by omega) (by omega),Int.tmod_eq_emod_of_nonneg (by omega),Int.tdiv_eq_ediv_of_nonneg (by omega)];have e8:((X:Int)+(Y:Int)+(c0:Int))%1000000000=(((c0+X+Y)%B10:Nat):Int):=by
   show _=(((c0+X+Y)%1000000000:Nat):Int)
   omega
  have e9:((X:Int)+(Y:Int)+(c0:Int))/1000000000=(((c0+X+Y)/B10:Nat):Int):=by
   show _=(((c0+X+Y)/1000000000:Nat):Int)
   omega
  have b2:(c0+X+Y)/B10<=1000000000:=by
   show(c0+X+Y)/1000000000<=1000000000;omega
  rw[e8,e9,wr (x:=(((c0+X+Y)/B10:Nat):Int)) (by omega) (by omega),wr (x:=(i:Int)+1) (by omega) (by omega),<-Nat.add_assoc j i 1,<-List.append_assoc (us.take j)];rfl) (fun g=>by
  unfold P.a9p;dsimp only;obtain⟨q1,q2,q3,q4⟩:=b3o a0d hw hv vs.length;rw[List.take_length,<-hWl,List.take_length,hWl]at q3;have hAl:(us.take j++(a1e B10 W vs vs.length).1).length=j+vs.length:=by rw[List.length_append,q2,List.length_take];omega
  have hlen:((us.take j++(a1e B10 W vs vs.length).1)++us.drop (j+vs.length)).length=us.length:=by rw[List.length_append,hAl,List.length_drop];omega
  have e3:(0:Int)<=((j+vs.length:Nat):Int):=by omega
  have e4:((j+vs.length:Nat):Int)<(us.length:Int):=by omega
  have e5:¬((vs.length:Int)<(vs.length:Int)):=by omega
  rw[<-Int.natCast_add,wr (x:=((j+vs.length:Nat):Int)) (by omega) (by omega)];simp only[e3,e4,e5,decide_true,decide_false,if_true,Nat.zero_add,Int.toNat_natCast,hlen,Bool.false_eq_true,if_false];rw[a2w (xs:=us) (i:=j+vs.length) (by omega),b1g hAl,b3e hAl,List.append_assoc _ [_],List.singleton_append];generalize a1e B10 W vs vs.length=p at*;obtain⟨pl,c0⟩:=p;dsimp only at*;generalize us.getD (j+vs.length) 0=top at*;rw[wr (x:=top+(c0:Int)) (by omega) (by omega)];have hlt:=a1n q1;rw[q2]at hlt;have eT:((a0c B10 W:Nat):Int)+((B10^vs.length:Nat):Int)*top+((a0c B10 vs:Nat):Int)=((a0c B10 pl:Nat):Int)+((B10^vs.length:Nat):Int)*(top+(c0:Int)):=by
   rw[Int.mul_add,<-Int.natCast_mul];omega
  rw[eT,(b1z hlt _).1,(b1z hlt _).2,Int.toNat_natCast,<-f4v a0d q1 q2 rfl]) (by omega)
 have e0:(us.take j++(a1e B10 W vs 0).1)++us.drop (j+0)=us:=by
  show(us.take j++[])++us.drop j=us;rw[List.append_nil,List.take_append_drop]
 rw[e0]at key;exact key
theorem S.d0t (x r) (h:S.a5d x=some r):∃k,P.b5q k x=some r:=by
 obtain⟨us,vs,j',u⟩:=x;unfold S.a5d at h;dsimp only at h;split at h
 case isFalse=>cases h
 rename_i hc;obtain⟨hj0,hl,hw,hv,ht0,ht1,hbig⟩:=hc;obtain⟨j,rfl⟩:∃d:Nat,j'=(d:Int):=⟨j'.toNat,by omega⟩
 refine⟨vs.length+1,?_⟩;rw[<-h];exact e3j us vs _ j rfl hl hw hv ht0 ht1 hbig
abbrev s_l01NatDiv.A:=Int×List Int×Int×Int×List Int×Int×List Int×Int×Unit
abbrev s_l01NatDiv.B:=Int×List Int×Int×List Int×List Int×Int×Unit
abbrev s_l01NatDiv.C:=Option ((List Int×List Int)×Unit)
abbrev P.a9q (g11:s_l01NatDiv.B->s_l01NatDiv.C) (x13:s_l01NatDiv.A) (g14:s_l01NatDiv.A->s_l01NatDiv.C):s_l01NatDiv.C:=
 (fun(a c d f i:Int) (b e h:List Int)=>if decide (a>=(1000000000:Int))then if decide ((0:Int)<=(IntKind.wrap .i64 (c - (1:Int))))then if decide ((IntKind.wrap .i64 (c - (1:Int)))<(b.length:Int))then if decide ((IntKind.wrap .i64 (d+(b.getD (Int.toNat (IntKind.wrap .i64 (c - (1:Int)))) (0:Int))))>=(1000000000:Int))then(S.a5c (e,b,f,IntKind.wrap .i64 (a - (1:Int)),())).bind fun y15=>if y15.1 then(S.a5d (splice e y15.2.1 (0:Nat),b,f,())).bind fun y16=>if decide ((0:Int)<=f)then if decide (f<(h.length:Int))then g11 (IntKind.wrap .i64 (f - (1:Int)),splice (splice e y15.2.1 (0:Nat)) y16.2.1 (0:Nat),c,b,h.set ((0:Nat)+f.toNat) (IntKind.wrap .i64 ((IntKind.wrap .i64 (a - (1:Int))) - (1:Int))),i,())else none else none else if decide ((0:Int)<=f)then if decide (f<(h.length:Int))then g11 (IntKind.wrap .i64 (f - (1:Int)),splice e y15.2.1 (0:Nat),c,b,h.set ((0:Nat)+f.toNat) (IntKind.wrap .i64 (a - (1:Int))),i,())else none else none else g14 (IntKind.wrap .i64 (a - (1:Int)),b,c,IntKind.wrap .i64 (d+(b.getD (Int.toNat (IntKind.wrap .i64 (c - (1:Int)))) (0:Int))),e,f,h,i,())else none else none else if decide ((0:Int)<=(IntKind.wrap .i64 (c - (2:Int))))then if decide ((IntKind.wrap .i64 (c - (2:Int)))<(b.length:Int))then if decide ((0:Int)<=(IntKind.wrap .i64 ((IntKind.wrap .i64 (f+c)) - (2:Int))))then if decide ((IntKind.wrap .i64 ((IntKind.wrap .i64 (f+c)) - (2:Int)))<(e.length:Int))then if decide ((IntKind.wrap .i64 (a*(b.getD (Int.toNat (IntKind.wrap .i64 (c - (2:Int)))) (0:Int))))>(IntKind.wrap .i64 ((IntKind.wrap .i64 (d*(1000000000:Int)))+(e.getD ((0:Nat)+(Int.toNat (IntKind.wrap .i64 ((IntKind.wrap .i64 (f+c)) - (2:Int))))) (0:Int)))))then if decide ((0:Int)<=(IntKind.wrap .i64 (c - (1:Int))))then if decide ((IntKind.wrap .i64 (c - (1:Int)))<(b.length:Int))then if decide ((IntKind.wrap .i64 (d+(b.getD (Int.toNat (IntKind.wrap .i64 (c - (1:Int)))) (0:Int))))>=(1000000000:Int))then(S.a5c (e,b,f,IntKind.wrap .i64 (a - (1:Int)),())).bind fun y17=>if y17.1 then(S.a5d (splice e y17.2.1 (0:Nat),b,f,())).bind fun y18=>if decide ((0:Int)<=f)then if decide (f<(h.length:Int))then g11 (IntKind.wrap .i64 (f - (1:Int)),splice (splice e y17.2.1 (0:Nat)) y18.2.1 (0:Nat),c,b,h.set ((0:Nat)+f.toNat) (IntKind.wrap .i64 ((IntKind.wrap .i64 (a - (1:Int))) - (1:Int))),i,())else none else none else if decide ((0:Int)<=f)then if decide (f<(h.length:Int))then g11 (IntKind.wrap .i64 (f - (1:Int)),splice e y17.2.1 (0:Nat),c,b,h.set ((0:Nat)+f.toNat) (IntKind.wrap .i64 (a - (1:Int))),i,())else none else none else g14 (IntKind.wrap .i64 (a - (1:Int)),b,c,IntKind.wrap .i64 (d+(b.getD (Int.toNat (IntKind.wrap .i64 (c - (1:Int)))) (0:Int))),e,f,h,i,())else none else none else(S.a5c (e,b,f,a,())).bind fun y19=>if y19.1 then(S.a5d (splice e y19.2.1 (0:Nat),b,f,())).bind fun y20=>if decide ((0:Int)<=f)then if decide (f<(h.length:Int))then g11 (IntKind.wrap .i64 (f - (1:Int)),splice (splice e y19.2.1 (0:Nat)) y20.2.1 (0:Nat),c,b,h.set ((0:Nat)+f.toNat) (IntKind.wrap .i64 (a - (1:Int))),i,())else none else none else if decide ((0:Int)<=f)then if decide (f<(h.length:Int))then g11 (IntKind.wrap .i64 (f - (1:Int)),splice e y19.2.1 (0:Nat),c,b,h.set ((0:Nat)+f.toNat) a,i,())else none else none else none else none else none else none) x13.1 x13.2.2.1 x13.2.2.2.1 x13.2.2.2.2.2.1 x13.2.2.2.2.2.2.2.1 x13.2.1 x13.2.2.2.2.1 x13.2.2.2.2.2.2.1
abbrev P.a4o (k:Nat) (x10:s_l01NatDiv.B) (g11:s_l01NatDiv.B->s_l01NatDiv.C):s_l01NatDiv.C:=
 (fun(a c f:Int) (b d e:List Int)=>if decide (a>=(0:Int))then if decide ((0:Int)<=(IntKind.wrap .i64 (a+c)))then if decide ((IntKind.wrap .i64 (a+c))<(b.length:Int))then if decide ((0:Int)<=(IntKind.wrap .i64 ((IntKind.wrap .i64 (a+c)) - (1:Int))))then if decide ((IntKind.wrap .i64 ((IntKind.wrap .i64 (a+c)) - (1:Int)))<(b.length:Int))then if decide ((0:Int)<=(IntKind.wrap .i64 (c - (1:Int))))then if decide ((IntKind.wrap .i64 (c - (1:Int)))<(d.length:Int))then if decide ((d.getD (Int.toNat (IntKind.wrap .i64 (c - (1:Int)))) (0:Int))=(0:Int))then none else if decide ((0:Int)<=(IntKind.wrap .i64 (c - (1:Int))))then if decide ((IntKind.wrap .i64 (c - (1:Int)))<(d.length:Int))then if decide ((d.getD (Int.toNat (IntKind.wrap .i64 (c - (1:Int)))) (0:Int))=(0:Int))then none else loopP (P.a9q g11) k (IntKind.wrap .i64 (Int.tdiv (IntKind.wrap .i64 ((IntKind.wrap .i64 ((b.getD ((0:Nat)+(Int.toNat (IntKind.wrap .i64 (a+c)))) (0:Int))*(1000000000:Int)))+(b.getD ((0:Nat)+(Int.toNat (IntKind.wrap .i64 ((IntKind.wrap .i64 (a+c)) - (1:Int))))) (0:Int)))) (d.getD (Int.toNat (IntKind.wrap .i64 (c - (1:Int)))) (0:Int))),d,c,Int.tmod (IntKind.wrap .i64 ((IntKind.wrap .i64 ((b.getD ((0:Nat)+(Int.toNat (IntKind.wrap .i64 (a+c)))) (0:Int))*(1000000000:Int)))+(b.getD ((0:Nat)+(Int.toNat (IntKind.wrap .i64 ((IntKind.wrap .i64 (a+c)) - (1:Int))))) (0:Int)))) (d.getD (Int.toNat (IntKind.wrap .i64 (c - (1:Int)))) (0:Int)),b,a,e,f,())else none else none else none else none else none else none else none else none else(S.a3x (b,())).bind fun y21=>(S.a2u (y21.1,f,())).bind fun y22=>(S.a3x (e,())).bind fun y23=>some ((y23.1,y22.1.1),())) x10.1 x10.2.2.1 x10.2.2.2.2.2.1 x10.2.1 x10.2.2.2.1 x10.2.2.2.2.1
def P.c2e (k:Nat) (x:List Int×List Int×Unit):s_l01NatDiv.C:=
 (S.a7d (x.1,())).bind fun y0=>(S.a7d (x.2.1,())).bind fun y1=>if y0.1.2 then if y1.1.2 then if decide (y1.1.1=(0:Int))then none else(S.a7c (IntKind.wrap .i64 (Int.tdiv y0.1.1 y1.1.1),())).bind fun y2=>if decide (y1.1.1=(0:Int))then none else(S.a7c (Int.tmod y0.1.1 y1.1.1,())).bind fun y3=>some ((y2.1,y3.1),())else(S.a0o (x.1,x.2.1,())).bind fun y4=>if decide (y4.1<(0:Int))then if decide ((((0:Nat)+x.1.length)*(8:Nat))<=(140737488355328:Nat))then some ((([]:List Int),([]:List Int)++x.1),())else none else if(x.2.1.length:Int)==(1:Int)then if decide ((0:Int)<(x.2.1.length:Int))then(S.a2u (x.1,x.2.1.getD (0:Nat) (0:Int),())).bind fun y5=>(S.a7c (y5.1.2,())).bind fun y6=>some ((y5.1.1,y6.1),())else none else if decide ((0:Int)<=(IntKind.wrap .i64 ((x.2.1.length:Int) - (1:Int))))then if decide ((IntKind.wrap .i64 ((x.2.1.length:Int) - (1:Int)))<(x.2.1.length:Int))then if decide ((IntKind.wrap .i64 ((x.2.1.getD (Int.toNat (IntKind.wrap .i64 ((x.2.1.length:Int) - (1:Int)))) (0:Int))+(1:Int)))=(0:Int))then none else if decide ((0:Int)<=(IntKind.wrap .i64 ((x.1.length:Int)+(1:Int))))then if decide ((IntKind.wrap .i64 ((x.1.length:Int)+(1:Int)))<=(IntKind.wrap .i64 ((x.1.length:Int)+(1:Int))))then if decide (((IntKind.wrap .i64 ((x.1.length:Int)+(1:Int)))*(8:Int))<=(281474976710656:Int))then(S.a2a (x.1,IntKind.wrap .i64 (Int.tdiv (1000000000:Int) (IntKind.wrap .i64 ((x.2.1.getD (Int.toNat (IntKind.wrap .i64 ((x.2.1.length:Int) - (1:Int)))) (0:Int))+(1:Int)))),())).bind fun y7=>(S.a2a (x.2.1,IntKind.wrap .i64 (Int.tdiv (1000000000:Int) (IntKind.wrap .i64 ((x.2.1.getD (Int.toNat (IntKind.wrap .i64 ((x.2.1.length:Int) - (1:Int)))) (0:Int))+(1:Int)))),())).bind fun y8=>if decide ((0:Int)<=(IntKind.wrap .i64 ((List.length (splice (List.replicate (Int.toNat (IntKind.wrap .i64 ((x.1.length:Int)+(1:Int)))) (0:Int)) (List.take (List.length (List.replicate (Int.toNat (IntKind.wrap .i64 ((x.1.length:Int)+(1:Int)))) (0:Int))) y7.1) (0:Nat)):Int) - (y8.1.length:Int))))then if decide ((IntKind.wrap .i64 ((List.length (splice (List.replicate (Int.toNat (IntKind.wrap .i64 ((x.1.length:Int)+(1:Int)))) (0:Int)) (List.take (List.length (List.replicate (Int.toNat (IntKind.wrap .i64 ((x.1.length:Int)+(1:Int)))) (0:Int))) y7.1) (0:Nat)):Int) - (y8.1.length:Int)))<=(IntKind.wrap .i64 ((List.length (splice (List.replicate (Int.toNat (IntKind.wrap .i64 ((x.1.length:Int)+(1:Int)))) (0:Int)) (List.take (List.length (List.replicate (Int.toNat (IntKind.wrap .i64 ((x.1.length:Int)+(1:Int)))) (0:Int))) y7.1) (0:Nat)):Int) - (y8.1.length:Int))))then if decide (((IntKind.wrap .i64 ((List.length (splice (List.replicate (Int.toNat (IntKind.wrap .i64 ((x.1.length:Int)+(1:Int)))) (0:Int)) (List.take (List.length (List.replicate (Int.toNat (IntKind.wrap .i64 ((x.1.length:Int)+(1:Int)))) (0:Int))) y7.1) (0:Nat)):Int) - (y8.1.length:Int)))*(8:Int))<=(281474976710656:Int))then loopP (P.a4o k) k (IntKind.wrap .i64 ((IntKind.wrap .i64 ((List.length (splice (List.replicate (Int.toNat (IntKind.wrap .i64 ((x.1.length:Int)+(1:Int)))) (0:Int)) (List.take (List.length (List.replicate (Int.toNat (IntKind.wrap .i64 ((x.1.length:Int)+(1:Int)))) (0:Int))) y7.1) (0:Nat)):Int) - (y8.1.length:Int))) - (1:Int)),splice (List.replicate (Int.toNat (IntKind.wrap .i64 ((x.1.length:Int)+(1:Int)))) (0:Int)) (List.take (List.length (List.replicate (Int.toNat (IntKind.wrap .i64 ((x.1.length:Int)+(1:Int)))) (0:Int))) y7.1) (0:Nat),(y8.1.length:Int),y8.1,List.replicate (Int.toNat (IntKind.wrap .i64 ((List.length (splice (List.replicate (Int.toNat (IntKind.wrap .i64 ((x.1.length:Int)+(1:Int)))) (0:Int)) (List.take (List.length (List.replicate (Int.toNat (IntKind.wrap .i64 ((x.1.length:Int)+(1:Int)))) (0:Int))) y7.1) (0:Nat)):Int) - (y8.1.length:Int)))) (0:Int),IntKind.wrap .i64 (Int.tdiv (1000000000:Int) (IntKind.wrap .i64 ((x.2.1.getD (Int.toNat (IntKind.wrap .i64 ((x.2.1.length:Int) - (1:Int)))) (0:Int))+(1:Int)))),())else none else none else none else none else none else none else none else none else(S.a0o (x.1,x.2.1,())).bind fun y24=>if decide (y24.1<(0:Int))then if decide ((((0:Nat)+x.1.length)*(8:Nat))<=(140737488355328:Nat))then some ((([]:List Int),([]:List Int)++x.1),())else none else if(x.2.1.length:Int)==(1:Int)then if decide ((0:Int)<(x.2.1.length:Int))then(S.a2u (x.1,x.2.1.getD (0:Nat) (0:Int),())).bind fun y25=>(S.a7c (y25.1.2,())).bind fun y26=>some ((y25.1.1,y26.1),())else none else if decide ((0:Int)<=(IntKind.wrap .i64 ((x.2.1.length:Int) - (1:Int))))then if decide ((IntKind.wrap .i64 ((x.2.1.length:Int) - (1:Int)))<(x.2.1.length:Int))then if decide ((IntKind.wrap .i64 ((x.2.1.getD (Int.toNat (IntKind.wrap .i64 ((x.2.1.length:Int) - (1:Int)))) (0:Int))+(1:Int)))=(0:Int))then none else if decide ((0:Int)<=(IntKind.wrap .i64 ((x.1.length:Int)+(1:Int))))then if decide ((IntKind.wrap .i64 ((x.1.length:Int)+(1:Int)))<=(IntKind.wrap .i64 ((x.1.length:Int)+(1:Int))))then if decide (((IntKind.wrap .i64 ((x.1.length:Int)+(1:Int)))*(8:Int))<=(281474976710656:Int))then(S.a2a (x.1,IntKind.wrap .i64 (Int.tdiv (1000000000:Int) (IntKind.wrap .i64 ((x.2.1.getD (Int.toNat (IntKind.wrap .i64 ((x.2.1.length:Int) - (1:Int)))) (0:Int))+(1:Int)))),())).bind fun y27=>(S.a2a (x.2.1,IntKind.wrap .i64 (Int.tdiv (1000000000:Int) (IntKind.wrap .i64 ((x.2.1.getD (Int.toNat (IntKind.wrap .i64 ((x.2.1.length:Int) - (1:Int)))) (0:Int))+(1:Int)))),())).bind fun y28=>if decide ((0:Int)<=(IntKind.wrap .i64 ((List.length (splice (List.replicate (Int.toNat (IntKind.wrap .i64 ((x.1.length:Int)+(1:Int)))) (0:Int)) (List.take (List.length (List.replicate (Int.toNat (IntKind.wrap .i64 ((x.1.length:Int)+(1:Int)))) (0:Int))) y27.1) (0:Nat)):Int) - (y28.1.length:Int))))then if decide ((IntKind.wrap .i64 ((List.length (splice (List.replicate (Int.toNat (IntKind.wrap .i64 ((x.1.length:Int)+(1:Int)))) (0:Int)) (List.take (List.length (List.replicate (Int.toNat (IntKind.wrap .i64 ((x.1.length:Int)+(1:Int)))) (0:Int))) y27.1) (0:Nat)):Int) - (y28.1.length:Int)))<=(IntKind.wrap .i64 ((List.length (splice (List.replicate (Int.toNat (IntKind.wrap .i64 ((x.1.length:Int)+(1:Int)))) (0:Int)) (List.take (List.length (List.replicate (Int.toNat (IntKind.wrap .i64 ((x.1.length:Int)+(1:Int)))) (0:Int))) y27.1) (0:Nat)):Int) - (y28.1.length:Int))))then if decide (((IntKind.wrap .i64 ((List.length (splice (List.replicate (Int.toNat (IntKind.wrap .i64 ((x.1.length:Int)+(1:Int)))) (0:Int)) (List.take (List.length (List.replicate (Int.toNat (IntKind.wrap .i64 ((x.1.length:Int)+(1:Int)))) (0:Int))) y27.1) (0:Nat)):Int) - (y28.1.length:Int)))*(8:Int))<=(281474976710656:Int))then loopP (P.a4o k) k (IntKind.wrap .i64 ((IntKind.wrap .i64 ((List.length (splice (List.replicate (Int.toNat (IntKind.wrap .i64 ((x.1.length:Int)+(1:Int)))) (0:Int)) (List.take (List.length (List.replicate (Int.toNat (IntKind.wrap .i64 ((x.1.length:Int)+(1:Int)))) (0:Int))) y27.1) (0:Nat)):Int) - (y28.1.length:Int))) - (1:Int)),splice (List.replicate (Int.toNat (IntKind.wrap .i64 ((x.1.length:Int)+(1:Int)))) (0:Int)) (List.take (List.length (List.replicate (Int.toNat (IntKind.wrap .i64 ((x.1.length:Int)+(1:Int)))) (0:Int))) y27.1) (0:Nat),(y28.1.length:Int),y28.1,List.replicate (Int.toNat (IntKind.wrap .i64 ((List.length (splice (List.replicate (Int.toNat (IntKind.wrap .i64 ((x.1.length:Int)+(1:Int)))) (0:Int)) (List.take (List.length (List.replicate (Int.toNat (IntKind.wrap .i64 ((x.1.length:Int)+(1:Int)))) (0:Int))) y27.1) (0:Nat)):Int) - (y28.1.length:Int)))) (0:Int),IntKind.wrap .i64 (Int.tdiv (1000000000:Int) (IntKind.wrap .i64 ((x.2.1.getD (Int.toNat (IntKind.wrap .i64 ((x.2.1.length:Int) - (1:Int)))) (0:Int))+(1:Int)))),())else none else none else none else none else none else none else none else none
theorem g8y (g:(Int×((List Int)×(Int×((List Int)×((List Int)×(Int×Unit))))))->(Option (((List Int)×(List Int))×Unit))) (F:Option (((List Int)×(List Int))×Unit)) {u0 vs:List Int} {m j:Nat} {d:Int}
  (h0:dig B10 u0=true) (hv:dig B10 vs=true) (hN:u0.length=m+vs.length) (hbig:u0.length<=100000000000) (hj:j<m) (hV:0<a0c B10 vs)
  (hg:g ((j:Int) - 1,(ldU B10 (a0c B10 vs) u0 j,((vs.length:Int),(vs,(ldQ B10 (a0c B10 vs) u0 m j,(d,()))))))=F)
  (q:Nat) (hq:q<1000000000) (h1:ldW B10 (a0c B10 vs) u0 j/a0c B10 vs<=q) (h2:q*a0c B10 vs<ldW B10 (a0c B10 vs) u0 j+a0c B10 vs) (q':Int) (hq':q'=(q:Int)):
  (Option.bind (S.a5c (ldU B10 (a0c B10 vs) u0 (j+1),(vs,((j:Int),(q',()))))) (fun(y19:(Bool×((List Int)×Unit)))=>(if(y19.1=true)then(Option.bind (S.a5d ((Go.Cm.splice (ldU B10 (a0c B10 vs) u0 (j+1)) y19.2.1 (0:Nat)),(vs,((j:Int),())))) (fun(y20:(Unit×((List Int)×Unit)))=>(if((decide ((0:Int)<=(j:Int)))=true)then(if((decide ((j:Int)<((List.length (ldQ B10 (a0c B10 vs) u0 m (j+1))):Int)))=true)then(g ((IntKind.wrap .i64 ((j:Int) - (1:Int))),((Go.Cm.splice (Go.Cm.splice (ldU B10 (a0c B10 vs) u0 (j+1)) y19.2.1 (0:Nat)) y20.2.1 (0:Nat)),((vs.length:Int),(vs,((List.set (ldQ B10 (a0c B10 vs) u0 m (j+1)) ((0:Nat)+(Int.toNat (j:Int))) (IntKind.wrap .i64 (q' - (1:Int)))),(d,())))))))
 else none)
 else none)))
 else(if((decide ((0:Int)<=(j:Int)))=true)then(if((decide ((j:Int)<((List.length (ldQ B10 (a0c B10 vs) u0 m (j+1))):Int)))=true)then(g ((IntKind.wrap .i64 ((j:Int) - (1:Int))),((Go.Cm.splice (ldU B10 (a0c B10 vs) u0 (j+1)) y19.2.1 (0:Nat)),((vs.length:Int),(vs,((List.set (ldQ B10 (a0c B10 vs) u0 m (j+1)) ((0:Nat)+(Int.toNat (j:Int))) q'),(d,())))))))
 else none)
 else none))))=F:=by
 subst hq';have hhi:=a1n hv;have hA:(u0.take j).length=j:=by simp;omega
 have hQ:=h5s a0d hV h0 (show j<u0.length by omega) hj;have hQl:(ldQ B10 (a0c B10 vs) u0 m (j+1)).length=m:=by unfold ldQ;rw[List.length_append,List.length_replicate,a3c];omega
 have hUl:=d1h a0d hV h0 hN hj hhi;have hs:=g4d a0d hV h0 hN hj hhi;have hs':=f8v a0d hV h0 hN hj hhi;generalize hn:vs.length=n at*;generalize hVV:a0c B10 vs=V at*;generalize hUU:ldW B10 V u0 j=U at*;generalize hR:List.replicate (m - 1 - j) (0:Int)=R at*;have hRl:R.length=m - 1 - j:=by rw[<-hR,List.length_replicate]
 have hUB:U/B10^n<1000000000:=by
  have:U/B10^n<B10:=by
   rw[Nat.div_lt_iff_lt_mul (Nat.pow_pos (by decide)),Nat.mul_comm,<-Nat.pow_succ];exact hUl
  exact this
 have hma:a0c B10 (fd B10 n U)+B10^n*(U/B10^n)=U:=by rw[b7y];exact Nat.mod_add_div _ _
 have hdm:=Nat.mod_add_div U V;have hml:=Nat.mod_lt U hV;obtain⟨n1,n2⟩:=h5q hV h1 h2;generalize U/B10^n=ut at*;generalize U/V=Q at*;generalize U%V=M at*;have e1:(0:Int)<=(j:Int):=by omega
 have e2:(j:Int)<(m:Int):=by omega
 rw[hs];have hlen:∀(T:Int) (X:Nat),((u0.take j++fd B10 n X)++T::R).length=j+n+1+R.length:=fun T X=>h3e hA (a3c _ _ _)
 unfold S.a5c;dsimp only;simp only[Int.toNat_natCast,hn,hVV,hQl,e1,e2,decide_true,if_true,Nat.zero_add];rw[f8t hA,g7r hA (a3c _ _ _),g7s hA (a3c _ _ _),f8u hA (a3c _ _ _),hlen];rw[if_pos ⟨by first|trivial|omega,by omega,b5u (by decide) _ _,hv,by omega,by omega,by omega,by omega,by omega⟩,Option.bind_some];dsimp only;rw[<-Int.natCast_mul,<-Int.natCast_add,hma]
 by_cases hle:q*V<=U
 ·have hqe:=n1 hle;have eT:(U:Int) - ((V*q:Nat):Int)=((M:Nat):Int)+((B10^n:Nat):Int)*0:=by
   rw[hqe];omega
  rw[eT,(b1z (Nat.lt_trans hml hhi) 0).1,(b1z (Nat.lt_trans hml hhi) 0).2,Int.toNat_natCast,if_neg (by simp),<-hs',b6u (by rw[hs',hlen,hlen]),hqe,hQ,wr (by omega) (by omega)];exact hg
 ·have hqe:=n2 (by omega);have hx:B10^n+M - V<B10^n:=by omega
  have eT:(U:Int) - ((V*q:Nat):Int)=((B10^n+M - V:Nat):Int)+((B10^n:Nat):Int)*(-1):=by
   rw[hqe,Nat.mul_add];omega
  rw[eT,(b1z hx (-1)).1,(b1z hx (-1)).2,Int.toNat_natCast,if_pos (by rfl),b6u (by rw[hlen,hlen])];unfold S.a5d;dsimp only;simp only[Int.toNat_natCast,hn,hVV];rw[f8t hA,g7r hA (a3c _ _ _),g7s hA (a3c _ _ _),f8u hA (a3c _ _ _),hlen];rw[if_pos ⟨by first|trivial|omega,by omega,b5u (by decide) _ _,hv,by omega,by omega,by omega⟩,Option.bind_some];dsimp only;have eT2:((a0c B10 (fd B10 n (B10^n+M - V)):Nat):Int)+((B10^n:Nat):Int)* -1+(V:Int)=((M:Nat):Int)+((B10^n:Nat):Int)*0:=by
   rw[b7y,Nat.mod_eq_of_lt hx];omega
  rw[eT2,(b1z (Nat.lt_trans hml hhi) 0).1,(b1z (Nat.lt_trans hml hhi) 0).2,Int.toNat_natCast,<-hs',b6u (by rw[hs',hlen,hlen]),hqe,wr (x:=((Q+1:Nat):Int) - 1) (by omega) (by omega),show((Q+1:Nat):Int) - 1=((Q:Nat):Int) by omega,hQ,wr (by omega) (by omega)];exact hg
theorem g3k (g:(Int×((List Int)×(Int×((List Int)×((List Int)×(Int×Unit))))))->(Option (((List Int)×(List Int))×Unit))) (F:Option (((List Int)×(List Int))×Unit)) {u0 vs:List Int} {m j:Nat} {d:Int}
  (h0:dig B10 u0=true) (hv:dig B10 vs=true) (hN:u0.length=m+vs.length) (hbig:u0.length<=100000000000) (hj:j<m) (hn2:2<=vs.length) (hlo:B10^(vs.length - 1)<=a0c B10 vs)
  (hg:g ((j:Int) - 1,(ldU B10 (a0c B10 vs) u0 j,((vs.length:Int),(vs,(ldQ B10 (a0c B10 vs) u0 m j,(d,()))))))=F) (w:Nat):
  ∀q r k:Nat,q*(a0c B10 vs/B10^(vs.length - 1))+r=ldW B10 (a0c B10 vs) u0 j/B10^(vs.length - 1)->ldW B10 (a0c B10 vs) u0 j/a0c B10 vs<=q->r<1000000000->1000000000 - r<=w->w<k->q<=2000000000000000000->
  loopP (P.a9q g) k ((q:Int),(vs,((vs.length:Int),((r:Int),(ldU B10 (a0c B10 vs) u0 (j+1),((j:Int),(ldQ B10 (a0c B10 vs) u0 m (j+1),(d,()))))))))=F:=by
 have hV:0<a0c B10 vs:=Nat.lt_of_lt_of_le (Nat.pow_pos (by decide)) hlo;have hhi:=a1n hv;have hU:=f4w a0d hV h0 (show j<u0.length by omega);have win:=f2t a0d hn2 hlo hhi hU;have htail:=fun q hq h1 h2 q' hq'=>g8y g F h0 hv hN hbig hj hV hg q hq h1 h2 q' hq'
 have g1:=c2i a0d hv (i:=vs.length - 1) (by omega);have g2:=c2i a0d hv (i:=vs.length - 2) (by omega);have g3:=d7i a0d hV h0 hN hj hhi (i:=vs.length - 2) (by omega);have hsl:(ldU B10 (a0c B10 vs) u0 (j+1)).length=m+vs.length:=by unfold ldU;rw[List.length_append,a3c,List.length_take];omega
 have hv1B:a0c B10 vs/B10^(vs.length - 1)<1000000000:=by
  have:a0c B10 vs/B10^(vs.length - 1)<B10:=by
   rw[Nat.div_lt_iff_lt_mul (Nat.pow_pos (by decide)),Nat.mul_comm,<-Nat.pow_succ,show(vs.length - 1).succ=vs.length by omega];exact hhi
  exact this
 have g1':a0c B10 vs/B10^(vs.length - 1)%B10=a0c B10 vs/B10^(vs.length - 1):=Nat.mod_eq_of_lt hv1B;rw[g1']at g1;have hv1:=win.hv1;generalize hX:ldW B10 (a0c B10 vs) u0 j/B10^(vs.length - 1)=X at*;generalize hv1e:a0c B10 vs/B10^(vs.length - 1)=v1 at*;have hv2B:a0c B10 vs/B10^(vs.length - 2)%B10<1000000000:=win.hv2;have hu2B:ldW B10 (a0c B10 vs) u0 j/B10^(vs.length - 2)%B10<1000000000:=win.hu2;generalize hv2e:a0c B10 vs/B10^(vs.length - 2)%B10=v2 at*;generalize hu2e:ldW B10 (a0c B10 vs) u0 j/B10^(vs.length - 2)%B10=u2 at*
 induction w with
 |zero=>intro q r k _ _ hr hw;omega
 |succ w ih=>
  intro q r k e hq hr hw hk hqb;obtain⟨k,rfl⟩:∃k',k=k'+1:=⟨k - 1,by omega⟩
  rw[a0j];unfold P.a9q;dsimp only;have c1:(0:Int)<=(vs.length:Int) - 1:=by omega
  have c2:(vs.length:Int) - 1<(vs.length:Int):=by omega
  have c3:(0:Int)<=(vs.length:Int) - 2:=by omega
  have c4:(vs.length:Int) - 2<(vs.length:Int):=by omega
  have c5:(0:Int)<=(j:Int)+(vs.length:Int) - 2:=by omega
  have c6:(j:Int)+(vs.length:Int) - 2<((m+vs.length:Nat):Int):=by omega
  rw[hsl,wr (x:=(vs.length:Int) - 1) (by omega) (by omega),wr (x:=(vs.length:Int) - 2) (by omega) (by omega),wr (x:=(j:Int)+(vs.length:Int)) (by omega) (by omega),wr (x:=(j:Int)+(vs.length:Int) - 2) (by omega) (by omega)];simp only[c1,c2,c3,c4,c5,c6,decide_true,if_true];rw[show((vs.length:Int) - 1).toNat=vs.length - 1 by omega,show((vs.length:Int) - 2).toNat=vs.length - 2 by omega,show 0+((j:Int)+(vs.length:Int) - 2).toNat=j+(vs.length - 2) by omega,g1,g2,g3,wr (x:=(r:Int)+(v1:Int)) (by omega) (by omega)];have hstep:ldW B10 (a0c B10 vs) u0 j/a0c B10 vs<q->((r:Int)+(v1:Int)>=1000000000->(q - 1)<1000000000/\ldW B10 (a0c B10 vs) u0 j/a0c B10 vs<=q - 1/\(q - 1)*a0c B10 vs<ldW B10 (a0c B10 vs) u0 j+a0c B10 vs/\IntKind.wrap .i64 ((q:Int) - 1)=((q - 1:Nat):Int))/\(¬((r:Int)+(v1:Int)>=1000000000)->loopP (P.a9q g) k (IntKind.wrap .i64 ((q:Int) - 1),(vs,((vs.length:Int),((r:Int)+(v1:Int),(ldU B10 (a0c B10 vs) u0 (j+1),((j:Int),(ldQ B10 (a0c B10 vs) u0 m (j+1),(d,()))))))))=F):=by
   intro hlt;have hq1:1<=q:=Nat.lt_of_le_of_lt (Nat.zero_le _) hlt;have eq1:IntKind.wrap .i64 ((q:Int) - 1)=((q - 1:Nat):Int):=by
    rw[wr (by omega) (by omega)];omega
   have e':(q - 1)*v1+(r+v1)=X:=by
    obtain⟨p,rfl⟩:∃p,q=p+1:=⟨q - 1,by omega⟩
    rw[Nat.add_mul,Nat.one_mul]at e;rw[Nat.add_sub_cancel];omega
   constructor
   ·intro hge;have hd:=win.done e' (.inr (show(1000000000:Nat)<=r+v1 by omega));exact⟨hd.1,by omega,hd.2,eq1⟩
   ·intro hge;rw[eq1,<-Int.natCast_add];exact ih (q - 1) (r+v1) k e' (by omega) (by omega) (by omega) (by omega) (by omega)
  by_cases b1:q>=1000000000
  ·rw[if_pos (decide_eq_true (by omega))];obtain⟨s1,s2⟩:=hstep (win.down e hq (.inl b1))
   by_cases b2:(r:Int)+(v1:Int)>=1000000000
   ·rw[if_pos (decide_eq_true b2)];obtain⟨t1,t2,t3,t4⟩:=s1 b2;exact htail (q - 1) t1 t2 t3 _ t4
   ·rw[if_neg (by simpa using b2)];exact s2 b2
  ·rw[if_neg (by simp;omega)];have hqv:q*v2<=999999999*999999999:=Nat.mul_le_mul (by omega) (by omega);rw[<-Int.natCast_mul,wr (x:=((q*v2:Nat):Int)) (by omega) (by omega),wr (x:=(r:Int)*1000000000) (by omega) (by omega),wr (x:=(r:Int)*1000000000+(u2:Int)) (by omega) (by omega)]
   by_cases b3:q*v2>r*1000000000+u2
   ·rw[if_pos (decide_eq_true (by omega))];obtain⟨s1,s2⟩:=hstep (win.down e hq (.inr b3))
    by_cases b2:(r:Int)+(v1:Int)>=1000000000
    ·rw[if_pos (decide_eq_true b2)];obtain⟨t1,t2,t3,t4⟩:=s1 b2;exact htail (q - 1) t1 t2 t3 _ t4
    ·rw[if_neg (by simpa using b2)];exact s2 b2
   ·rw[if_neg (by simp;omega)];have hd:=win.done e (.inl ⟨show q<B10 by show q<1000000000;omega,show q*v2<=r*B10+u2 by show q*v2<=r*1000000000+u2;omega⟩);exact htail q hd.1 hq hd.2 _ rfl
theorem g3l {u0 vs:List Int} {m d:Nat}
  (h0:dig B10 u0=true) (hv:dig B10 vs=true) (hN:u0.length=m+vs.length) (hbig:u0.length<=100000000000) (hn2:2<=vs.length) (hlo:B10^(vs.length - 1)<=a0c B10 vs) (hd:0<d) (hd1:d<=1000000000) (ht:a0c B10 (u0.drop m)<a0c B10 vs):
  loopP (P.a4o (m+1000000010)) (m+1000000010) ((m:Int) - 1,(u0,((vs.length:Int),(vs,(List.replicate m 0,((d:Int),()))))))=some ((nd B10 (a0c B10 u0/a0c B10 vs),nd B10 (a0c B10 u0%a0c B10 vs/d)),()):=by
 have hV:0<a0c B10 vs:=Nat.lt_of_lt_of_le (Nat.pow_pos (by decide)) hlo;have hhi:=a1n hv;obtain⟨f1,f2⟩:=f2s a0d hV h0 (show m<=u0.length by omega) ht;have key:=a0f (k:=m+1000000010) (b:=P.a4o (m+1000000010)) (n:=m) (st:=fun i=>((m:Int) - 1 - (i:Int),ldU B10 (a0c B10 vs) u0 (m - i),(vs.length:Int),vs,ldQ B10 (a0c B10 vs) u0 m (m - i),(d:Int),())) (F:=fun i=>some ((nd B10 (a0c B10 u0/a0c B10 vs),nd B10 (a0c B10 u0%a0c B10 vs/d)),())) (fun i g hi hg=>by
  unfold P.a4o;dsimp only at hg ⊢;obtain⟨j,hj⟩:∃j,m - i=j+1:=⟨m - i - 1,by omega⟩
  have hjm:j<m:=by omega
  rw[show m - (i+1)=j by omega,show(m:Int) - 1 - ((i+1:Nat):Int)=(j:Int) - 1 by omega]at hg;rw[hj,show(m:Int) - 1 - (i:Int)=(j:Int) by omega];have hU:=f4w a0d hV h0 (show j<u0.length by omega);have win:=f2t a0d hn2 hlo hhi hU;have g1:=c2i a0d hv (i:=vs.length - 1) (by omega);have g3:=d7i a0d hV h0 hN hjm hhi (i:=vs.length) (by omega);have g4:=d7i a0d hV h0 hN hjm hhi (i:=vs.length - 1) (by omega);have hsl:(ldU B10 (a0c B10 vs) u0 (j+1)).length=m+vs.length:=by unfold ldU;rw[List.length_append,a3c,List.length_take];omega
  have hv1B:a0c B10 vs/B10^(vs.length - 1)<1000000000:=by
   have:a0c B10 vs/B10^(vs.length - 1)<B10:=by
    rw[Nat.div_lt_iff_lt_mul (Nat.pow_pos (by decide)),Nat.mul_comm,<-Nat.pow_succ,show(vs.length - 1).succ=vs.length by omega];exact hhi
   exact this
  have g1':a0c B10 vs/B10^(vs.length - 1)%B10=a0c B10 vs/B10^(vs.length - 1):=Nat.mod_eq_of_lt hv1B;rw[g1']at g1;have hv1:=win.hv1;have hxlt:=win.xlt;have hstart:=win.start;have hUl:=d1h a0d hV h0 hN hjm hhi;have hinner:=g3k g _ h0 hv hN hbig hjm hn2 hlo hg 1000000000;have hXe:ldW B10 (a0c B10 vs) u0 j/B10^vs.length%B10*1000000000+ldW B10 (a0c B10 vs) u0 j/B10^(vs.length - 1)%B10=ldW B10 (a0c B10 vs) u0 j/B10^(vs.length - 1):=by
   have hq:ldW B10 (a0c B10 vs) u0 j/B10^vs.length<B10:=by
    rw[Nat.div_lt_iff_lt_mul (Nat.pow_pos (by decide)),Nat.mul_comm,<-Nat.pow_succ];exact hUl
   rw[Nat.mod_eq_of_lt hq];have e:B10^vs.length=B10^(vs.length - 1)*B10:=by rw[<-Nat.pow_succ];congr 1;omega
   rw[e,<-Nat.div_div_eq_div_mul,Nat.mul_comm];exact Nat.div_add_mod _ _
  have hu1:ldW B10 (a0c B10 vs) u0 j/B10^vs.length%B10<1000000000:=Nat.mod_lt _ (by decide);have hu0:ldW B10 (a0c B10 vs) u0 j/B10^(vs.length - 1)%B10<1000000000:=Nat.mod_lt _ (by decide);generalize hX:ldW B10 (a0c B10 vs) u0 j/B10^(vs.length - 1)=X at*;generalize hv1e:a0c B10 vs/B10^(vs.length - 1)=v1 at*;generalize ldW B10 (a0c B10 vs) u0 j/B10^vs.length%B10=ua at*;generalize X%B10=ub at*;have c0:(j:Int)>=0:=by omega
  have c1:(0:Int)<=(j:Int)+(vs.length:Int):=by omega
  have c2:(j:Int)+(vs.length:Int)<((m+vs.length:Nat):Int):=by omega
  have c3:(0:Int)<=(j:Int)+(vs.length:Int) - 1:=by omega
  have c4:(j:Int)+(vs.length:Int) - 1<((m+vs.length:Nat):Int):=by omega
  have c5:(0:Int)<=(vs.length:Int) - 1:=by omega
  have c6:(vs.length:Int) - 1<(vs.length:Int):=by omega
  have c7:¬((v1:Int)=0):=by omega
  rw[hsl,wr (x:=(vs.length:Int) - 1) (by omega) (by omega),wr (x:=(j:Int)+(vs.length:Int)) (by omega) (by omega),wr (x:=(j:Int)+(vs.length:Int) - 1) (by omega) (by omega)];rw[show((vs.length:Int) - 1).toNat=vs.length - 1 by omega,show 0+((j:Int)+(vs.length:Int)).toNat=j+vs.length by omega,show 0+((j:Int)+(vs.length:Int) - 1).toNat=j+(vs.length - 1) by omega,g1,g3,g4];simp only[c0,c1,c2,c3,c4,c5,c6,c7,decide_true,decide_false,if_true,if_false,Bool.false_eq_true];rw[wr (x:=(ua:Int)*1000000000) (by omega) (by omega),wr (x:=(ua:Int)*1000000000+(ub:Int)) (by omega) (by omega),show(ua:Int)*1000000000+(ub:Int)=(X:Int) by omega,Int.tdiv_eq_ediv_of_nonneg (by omega),Int.tmod_eq_emod_of_nonneg (by omega),<-Int.natCast_ediv,<-Int.natCast_emod];have hX18:X<=1000000000000000000:=by omega
  have hXd:X/v1<=X:=Nat.div_le_self _ _;have hml:=Nat.mod_lt X hv1;have hdm:X/v1*v1+X%v1=X:=by rw[Nat.mul_comm];exact Nat.div_add_mod _ _
  generalize X/v1=qq at*;generalize X%v1=rr at*;rw[wr (x:=(qq:Int)) (by omega) (by omega)];exact hinner qq rr (m+1000000010) hdm hstart (by omega) (by omega) (by omega) (by omega)) (fun g=>by
  unfold P.a4o;dsimp only;rw[if_neg (by simp;omega),Nat.sub_self];have hVN:a0c B10 vs<=B10^u0.length:=Nat.le_trans (Nat.le_of_lt hhi) (Nat.pow_le_pow_right (by decide) (by omega));obtain⟨l1,l2,l3,l4,l5,l6⟩:=f8s a0d hV h0 (show m<=u0.length by omega) ht hVN;have hul:(nd B10 (a0c B10 u0%a0c B10 vs)).length<=u0.length:=by
   rw[a4l a0d,<-l1,<-l5];exact a1n l3
  unfold S.a3x S.a2u;dsimp only;rw[if_pos ⟨l3,by omega⟩,Option.bind_some];dsimp only;rw[l1,if_pos ⟨a3z a0d _,by omega,by omega,by omega⟩,Option.bind_some];dsimp only;rw[if_pos ⟨l4,by omega⟩,Option.bind_some,a0i a0d,l2,Int.toNat_natCast]) (by omega)
 rw[Nat.sub_zero,f1,f2]at key;rw[<-key,show(m:Int) - 1 - ((0:Nat):Int)=(m:Int) - 1 by omega]
theorem f7m (as bs:List Int) (ca:a2r B10 as=true) (cb:a2r B10 bs=true) (hne:bs≠ []) (la:as.length<=10000000000) (lb:bs.length<=10000000000) (hb0:a0c B10 bs≠0) (hlow:B10^(bs.length - 1)<=a0c B10 bs)
  (b:(Int×((List Int)×(Int×((List Int)×((List Int)×(Int×Unit))))))->((Int×((List Int)×(Int×((List Int)×((List Int)×(Int×Unit))))))->Option (((List Int)×(List Int))×Unit))->Option (((List Int)×(List Int))×Unit)) (hbb:b=P.a4o ((as.length+1 - bs.length)+1000000010)):
  (Option.bind (S.a0o (as,(bs,()))) (fun(y4:(Int×Unit))=>(if((decide (y4.1<(0:Int)))=true)then(if((decide ((((0:Nat)+(List.length as))*(8:Nat))<=(140737488355328:Nat)))=true)then(some ((([]:List Int),(([]:List Int)++as)),()))
 else none)
 else(if((((List.length bs):Int)==(1:Int))=true)then(if((decide ((0:Int)<((List.length bs):Int)))=true)then(Option.bind (S.a2u (as,((List.getD bs (0:Nat) (0:Int)),()))) (fun(y5:(((List Int)×Int)×Unit))=>(Option.bind (S.a7c (y5.1.2,())) (fun(y6:((List Int)×Unit))=>(some ((y5.1.1,y6.1),()))))))
 else none)
 else(if((decide ((0:Int)<=(IntKind.wrap .i64 (((List.length bs):Int) - (1:Int)))))=true)then(if((decide ((IntKind.wrap .i64 (((List.length bs):Int) - (1:Int)))<((List.length bs):Int)))=true)then(if((decide ((IntKind.wrap .i64 ((List.getD bs (Int.toNat (IntKind.wrap .i64 (((List.length bs):Int) - (1:Int)))) (0:Int))+(1:Int)))=(0:Int)))=true)then none
 else(if((decide ((0:Int)<=(IntKind.wrap .i64 (((List.length as):Int)+(1:Int)))))=true)then(if((decide ((IntKind.wrap .i64 (((List.length as):Int)+(1:Int)))<=(IntKind.wrap .i64 (((List.length as):Int)+(1:Int)))))=true)then(if((decide (((IntKind.wrap .i64 (((List.length as):Int)+(1:Int)))*(8:Int))<=(281474976710656:Int)))=true)then(Option.bind (S.a2a (as,((IntKind.wrap .i64 (Int.tdiv (1000000000:Int) (IntKind.wrap .i64 ((List.getD bs (Int.toNat (IntKind.wrap .i64 (((List.length bs):Int) - (1:Int)))) (0:Int))+(1:Int))))),()))) (fun(y7:((List Int)×Unit))=>(Option.bind (S.a2a (bs,((IntKind.wrap .i64 (Int.tdiv (1000000000:Int) (IntKind.wrap .i64 ((List.getD bs (Int.toNat (IntKind.wrap .i64 (((List.length bs):Int) - (1:Int)))) (0:Int))+(1:Int))))),()))) (fun(y8:((List Int)×Unit))=>(if((decide ((0:Int)<=(IntKind.wrap .i64 (((List.length (Go.Cm.splice (List.replicate (Int.toNat (IntKind.wrap .i64 (((List.length as):Int)+(1:Int)))) (0:Int)) (List.take (List.length (List.replicate (Int.toNat (IntKind.wrap .i64 (((List.length as):Int)+(1:Int)))) (0:Int))) y7.1) (0:Nat))):Int) - ((List.length y8.1):Int)))))=true)then(if((decide ((IntKind.wrap .i64 (((List.length (Go.Cm.splice (List.replicate (Int.toNat (IntKind.wrap .i64 (((List.length as):Int)+(1:Int)))) (0:Int)) (List.take (List.length (List.replicate (Int.toNat (IntKind.wrap .i64 (((List.length as):Int)+(1:Int)))) (0:Int))) y7.1) (0:Nat))):Int) - ((List.length y8.1):Int)))<=(IntKind.wrap .i64 (((List.length (Go.Cm.splice (List.replicate (Int.toNat (IntKind.wrap .i64 (((List.length as):Int)+(1:Int)))) (0:Int)) (List.take (List.length (List.replicate (Int.toNat (IntKind.wrap .i64 (((List.length as):Int)+(1:Int)))) (0:Int))) y7.1) (0:Nat))):Int) - ((List.length y8.1):Int)))))=true)then(if((decide (((IntKind.wrap .i64 (((List.length (Go.Cm.splice (List.replicate (Int.toNat (IntKind.wrap .i64 (((List.length as):Int)+(1:Int)))) (0:Int)) (List.take (List.length (List.replicate (Int.toNat (IntKind.wrap .i64 (((List.length as):Int)+(1:Int)))) (0:Int))) y7.1) (0:Nat))):Int) - ((List.length y8.1):Int)))*(8:Int))<=(281474976710656:Int)))=true)then(Go.Cm.loopP (X:=(Int×((List Int)×(Int×((List Int)×((List Int)×(Int×Unit))))))) (R:=(((List Int)×(List Int))×Unit)) b ((as.length+1 - bs.length)+1000000010) ((IntKind.wrap .i64 ((IntKind.wrap .i64 (((List.length (Go.Cm.splice (List.replicate (Int.toNat (IntKind.wrap .i64 (((List.length as):Int)+(1:Int)))) (0:Int)) (List.take (List.length (List.replicate (Int.toNat (IntKind.wrap .i64 (((List.length as):Int)+(1:Int)))) (0:Int))) y7.1) (0:Nat))):Int) - ((List.length y8.1):Int))) - (1:Int))),((Go.Cm.splice (List.replicate (Int.toNat (IntKind.wrap .i64 (((List.length as):Int)+(1:Int)))) (0:Int)) (List.take (List.length (List.replicate (Int.toNat (IntKind.wrap .i64 (((List.length as):Int)+(1:Int)))) (0:Int))) y7.1) (0:Nat)),(((List.length y8.1):Int),(y8.1,((List.replicate (Int.toNat (IntKind.wrap .i64 (((List.length (Go.Cm.splice (List.replicate (Int.toNat (IntKind.wrap .i64 (((List.length as):Int)+(1:Int)))) (0:Int)) (List.take (List.length (List.replicate (Int.toNat (IntKind.wrap .i64 (((List.length as):Int)+(1:Int)))) (0:Int))) y7.1) (0:Nat))):Int) - ((List.length y8.1):Int)))) (0:Int)),((IntKind.wrap .i64 (Int.tdiv (1000000000:Int) (IntKind.wrap .i64 ((List.getD bs (Int.toNat (IntKind.wrap .i64 (((List.length bs):Int) - (1:Int)))) (0:Int))+(1:Int))))),())))))))
 else none)
 else none)
 else none)))))
 else none)
 else none)
 else none))
 else none)
 else none)))))=some ((nd B10 (a0c B10 as/a0c B10 bs),nd B10 (a0c B10 as%a0c B10 bs)),()):=by
 subst hbb;have da:=a1q ca;have db:=a1q cb;have hbpos:0<bs.length:=List.length_pos_iff.2 hne;have hhib:=a1n db;have hhia:=a1n da;have sc:S.a0o (as,(bs,()))=some (b1d (a0c B10 as) (a0c B10 bs),()):=by
  unfold S.a0o;exact if_pos ⟨ca,cb,by dsimp only;omega⟩
 rw[sc,Option.bind_some];dsimp only
 by_cases hlt:a0c B10 as<a0c B10 bs
 ·have q1:(0+as.length)*8<=140737488355328:=by omega
  rw[if_pos (decide_eq_true (c2j.2 hlt)),if_pos (decide_eq_true q1),Nat.div_eq_of_lt hlt,Nat.mod_eq_of_lt hlt,a1t a0d,a1d ca,List.nil_append]
 ·rw[if_neg (by simpa [c2j]using hlt)]
  by_cases h1:bs.length=1
  ·obtain⟨b0,rfl⟩:∃b0,bs=[b0]:=by
    match bs,h1 with
    | [b0],_=>exact⟨b0,rfl⟩
   rw[if_pos (by rfl),if_pos (by rfl)];have hb:a0c B10 [b0]=b0.toNat:=by simp [a0c]
   have hbd:=(a2k _ _).1 db;have hbd1:b0<1000000000:=hbd.1.2;rw[hb]at hb0 ⊢;show Option.bind (S.a2u (as,(b0,()))) _=_;unfold S.a2u S.a7c;dsimp only;have hm:=Nat.mod_lt (a0c B10 as) (show 0<b0.toNat by omega);rw[if_pos ⟨da,by omega,by omega,by omega⟩,Option.bind_some];dsimp only;rw[if_pos ⟨by omega,by omega⟩,Option.bind_some,Int.toNat_natCast]
  ·rw[if_neg (by simp;omega)];have hn2:2<=bs.length:=by omega
   have c1:(0:Int)<=(bs.length:Int) - 1:=by omega
   have c2:(bs.length:Int) - 1<(bs.length:Int):=by omega
   have c3:(0:Int)<=(as.length:Int)+1:=by omega
   have c4:((as.length:Int)+1)*8<=281474976710656:=by omega
   have hbtB:a0c B10 bs/B10^(bs.length - 1)<1000000000:=by
    have:a0c B10 bs/B10^(bs.length - 1)<B10:=by
     rw[Nat.div_lt_iff_lt_mul (Nat.pow_pos (by decide)),Nat.mul_comm,<-Nat.pow_succ,show(bs.length - 1).succ=bs.length by omega];exact hhib
    exact this
   have hbt0:0<a0c B10 bs/B10^(bs.length - 1):=Nat.div_pos hlow (Nat.pow_pos (by decide));have g1:=c2i a0d db (i:=bs.length - 1) (by omega);rw[show a0c B10 bs/B10^(bs.length - 1)%B10=a0c B10 bs/B10^(bs.length - 1)from Nat.mod_eq_of_lt hbtB]at g1;have hbt1:a0c B10 bs<(a0c B10 bs/B10^(bs.length - 1)+1)*B10^(bs.length - 1):=by
    have:=Nat.lt_div_mul_add (show 0<B10^(bs.length - 1)from Nat.pow_pos (by decide)) (a:=a0c B10 bs);rw[Nat.add_mul,Nat.one_mul];exact this
   generalize hbt:a0c B10 bs/B10^(bs.length - 1)=bt at*;have c5:¬((bt:Int)+1=0):=by omega
   rw[wr (x:=(bs.length:Int) - 1) (by omega) (by omega),wr (x:=(as.length:Int)+1) (by omega) (by omega),show((bs.length:Int) - 1).toNat=bs.length - 1 by omega,g1,wr (x:=(bt:Int)+1) (by omega) (by omega)];simp only[c1,c2,c3,c4,c5,decide_true,decide_false,if_true,if_false,Bool.false_eq_true,Int.le_refl];rw[Int.tdiv_eq_ediv_of_nonneg (by omega),show(1000000000:Int)/((bt:Int)+1)=((1000000000/(bt+1):Nat):Int) by rw[Int.natCast_ediv];rfl];have hd0:0<1000000000/(bt+1):=Nat.div_pos (by omega) (by omega);have hd1:1000000000/(bt+1)<=1000000000:=Nat.div_le_self _ _;have hd2:(bt+1)*(1000000000/(bt+1))<=B10:=Nat.mul_div_le _ _;generalize 1000000000/(bt+1)=d at*;rw[wr (x:=(d:Int)) (by omega) (by omega)];have m1:S.a2a (as,((d:Int),()))=some (nd B10 (a0c B10 as*d),()):=by
    unfold S.a2a;exact if_pos ⟨ca,by dsimp only;omega,by dsimp only;omega,by dsimp only;omega⟩
   have m2:S.a2a (bs,((d:Int),()))=some (nd B10 (a0c B10 bs*d),()):=by
    unfold S.a2a;exact if_pos ⟨cb,by dsimp only;omega,by dsimp only;omega,by dsimp only;omega⟩
   rw[m1,Option.bind_some,m2,Option.bind_some];dsimp only;have hvhi:a0c B10 bs*d<B10^bs.length:=by
    have h3:a0c B10 bs*d<(bt+1)*B10^(bs.length - 1)*d:=Nat.mul_lt_mul_of_pos_right hbt1 hd0;have h4:(bt+1)*B10^(bs.length - 1)*d=(bt+1)*d*B10^(bs.length - 1):=by ac_rfl
    have h5:(bt+1)*d*B10^(bs.length - 1)<=B10*B10^(bs.length - 1):=Nat.mul_le_mul_right _ hd2;have h6:B10*B10^(bs.length - 1)=B10^bs.length:=by rw[Nat.mul_comm,<-Nat.pow_succ];congr 1;omega
    omega
   have hvlo:B10^(bs.length - 1)<=a0c B10 bs*d:=Nat.le_trans hlow (Nat.le_mul_of_pos_right _ hd0);have hvl:(nd B10 (a0c B10 bs*d)).length=bs.length:=by
    have h3:=(a4l a0d (a0c B10 bs*d) bs.length).2 hvhi;have h4:=a4l a0d (a0c B10 bs*d) (bs.length - 1);have h5:¬(nd B10 (a0c B10 bs*d)).length<=bs.length - 1:=by
     rw[h4];omega
    omega
   have hal:(nd B10 (a0c B10 as*d)).length<=as.length+1:=by
    rw[a4l a0d,Nat.pow_succ];exact Nat.lt_of_lt_of_le (Nat.mul_lt_mul_of_pos_right hhia hd0) (Nat.mul_le_mul_left _ hd1)
   have hab:bs.length<=as.length:=by
    rcases Nat.lt_or_ge as.length bs.length with g|g
    ·have:=b1e a0d ca cb g;omega
    ·exact g
   have hdv:a0c B10 (nd B10 (a0c B10 as*d))=a0c B10 as*d:=a0i a0d _;have hdw:a0c B10 (nd B10 (a0c B10 bs*d))=a0c B10 bs*d:=a0i a0d _;have hdu:=a3z a0d (a0c B10 as*d);have hdv':=a3z a0d (a0c B10 bs*d);generalize nd B10 (a0c B10 as*d)=ys at*;generalize nd B10 (a0c B10 bs*d)=vs at*;have hsp:Go.Cm.splice (List.replicate ((as.length:Int)+1).toNat (0:Int)) (List.take (List.length (List.replicate ((as.length:Int)+1).toNat (0:Int))) ys) 0=ys++List.replicate (as.length+1 - ys.length) 0:=by
    rw[List.length_replicate,show((as.length:Int)+1).toNat=as.length+1 by omega,List.take_of_length_le hal];unfold splice;rw[List.take_zero,List.nil_append,Nat.zero_add,List.drop_replicate]
   rw[hsp];have hu0:a0c B10 (ys++List.replicate (as.length+1 - ys.length) 0)=a0c B10 as*d:=by rw[f4t,hdv]
   have hul:(ys++List.replicate (as.length+1 - ys.length) 0).length=(as.length+1 - bs.length)+vs.length:=by
    rw[List.length_append,List.length_replicate];omega
   have hud:dig B10 (ys++List.replicate (as.length+1 - ys.length) 0)=true:=by
    rw[a1m,hdu,Bool.true_and];unfold dig;rw[List.all_eq_true];intro x hx;rw[List.eq_of_mem_replicate hx];decide
   generalize ys++List.replicate (as.length+1 - ys.length) 0=u0 at*;have ht:a0c B10 (u0.drop (as.length+1 - bs.length))<a0c B10 bs*d:=g7q (n:=vs.length) a0d hud hu0 hd0 hul (by rw[show as.length+1 - bs.length+vs.length - 1=as.length by omega];exact hhia) (by omega) (by rw[hvl];exact hlow);have hmain:=g3l (m:=as.length+1 - bs.length) (d:=d) hud hdv' hul (by omega) (by omega) (by rw[hvl,hdw];exact hvlo) hd0 hd1 (by rw[hdw];exact ht);have e9:((u0.length:Int) - (vs.length:Int))=((as.length+1 - bs.length:Nat):Int):=by omega
   have c6:(0:Int)<=((as.length+1 - bs.length:Nat):Int):=by omega
   have c7:((as.length+1 - bs.length:Nat):Int)*8<=281474976710656:=by omega
   rw[e9,wr (x:=((as.length+1 - bs.length:Nat):Int)) (by omega) (by omega),wr (x:=((as.length+1 - bs.length:Nat):Int) - 1) (by omega) (by omega)];simp only[c6,c7,decide_true,if_true,Int.toNat_natCast];rw[hmain,hu0,hdw,Nat.mul_div_mul_right _ _ hd0,Nat.mul_mod_mul_right,Nat.mul_div_cancel _ hd0]
def S.a4p (x:((List Int)×((List Int)×Unit))):(Option (((List Int)×(List Int))×Unit)):=if a2r B10 x.1=true/\a2r B10 x.2.1=true/\x.2.1≠ []/\x.1.length<=10000000000/\x.2.1.length<=10000000000 then some ((nd B10 (a0c B10 x.1/a0c B10 x.2.1),nd B10 (a0c B10 x.1%a0c B10 x.2.1)),())else none
theorem S.d5c (x r) (h:S.a4p x=some r):∃k,P.c2e k x=some r:=by
 obtain⟨as,bs,u⟩:=x;unfold S.a4p at h;dsimp only at h;split at h
 case isFalse=>cases h
 rename_i hc;obtain⟨ca,cb,hne,la,lb⟩:=hc;cases h;have da:=a1q ca;have db:=a1q cb;have hbpos:0<bs.length:=List.length_pos_iff.2 hne;have hb0:a0c B10 bs≠0:=by
  intro q;have:=a1d cb;rw[q,a1t a0d]at this;exact hne this.symm
 have hlow:=e4h a0d hb0;rw[a1d cb]at hlow;have hhib:=a1n db;have hhia:=a1n da;have sa:S.a7d (as,())=some ((if as.length<=2 then((a0c B10 as:Nat):Int)else 0,decide (as.length<=2)),()):=by
  unfold S.a7d;exact if_pos ⟨da,by dsimp only;omega⟩
 have sb:S.a7d (bs,())=some ((if bs.length<=2 then((a0c B10 bs:Nat):Int)else 0,decide (bs.length<=2)),()):=by
  unfold S.a7d;exact if_pos ⟨db,by dsimp only;omega⟩
 have sc:S.a0o (as,(bs,()))=some (b1d (a0c B10 as) (a0c B10 bs),()):=by
  unfold S.a0o;exact if_pos ⟨ca,cb,by dsimp only;omega⟩
 refine⟨(as.length+1 - bs.length)+1000000010,?_⟩;unfold P.c2e;dsimp only;rw[sa,Option.bind_some,sb,Option.bind_some];dsimp only;have hsmall:∀xs:List Int,dig B10 xs=true->xs.length<=2->a0c B10 xs<1000000000000000000:=by
  intro xs hd hl;have h1:=a1n hd;have h2:B10^xs.length<=B10^2:=Nat.pow_le_pow_right (by decide) hl;have h3:B10^2=1000000000000000000:=rfl;omega
 by_cases c1:as.length<=2
 ·by_cases c2:bs.length<=2
  ·have s1:=hsmall as da c1;have s2:=hsmall bs db c2;have hz:¬(((a0c B10 bs:Nat):Int)=0):=by omega
   simp only[c1,c2,hz,decide_true,decide_false,if_true,if_false,Bool.false_eq_true];rw[Int.tdiv_eq_ediv_of_nonneg (by omega),Int.tmod_eq_emod_of_nonneg (by omega),<-Int.natCast_ediv,<-Int.natCast_emod];have hq:=Nat.div_le_self (a0c B10 as) (a0c B10 bs);have hm:=Nat.mod_le (a0c B10 as) (a0c B10 bs);generalize a0c B10 as/a0c B10 bs=Q at*;generalize a0c B10 as%a0c B10 bs=M at*;rw[wr (by omega) (by omega)];unfold S.a7c;dsimp only;rw[if_pos ⟨by omega,by omega⟩,Option.bind_some,if_pos ⟨by omega,by omega⟩,Option.bind_some,Int.toNat_natCast,Int.toNat_natCast]
  ·rw[if_pos (decide_eq_true c1),if_neg (by simpa using c2)];exact f7m as bs ca cb hne la lb hb0 hlow _ rfl
 ·rw[if_neg (by simpa using c1)];exact f7m as bs ca cb hne la lb hb0 hlow _ rfl
abbrev P.b7r (x1:List Int×List Int×Unit) (g2:List Int×List Int×Unit->Option (List Int×Unit)):Option (List Int×Unit):=
 if decide ((x1.1.length:Int)>(0:Int))then(S.a4p (x1.2.1,x1.1,())).bind fun y3=>g2 (y3.1.2,x1.1,())else some (x1.2.1,())
def P.d9a (k:Nat) (x:List Int×List Int×Unit):Option (List Int×Unit):=
 loopP P.b7r k (x.2.1,x.1,())
theorem f7n {B:Nat} (hB:2<=B) {xs:List Int} (h:a2r B xs=true) (hn:xs≠ []):a0c B xs≠0:=by
 intro q;have:=a1d h;rw[q,a1t hB]at this;exact hn this.symm
theorem f4f {B:Nat} (hB:2<=B) {m n:Nat} (h:m<=n):(nd B m).length<=(nd B n).length:=by
 rw[a4l hB];exact Nat.lt_of_le_of_lt h ((a4l hB n _).1 (Nat.le_refl _))
theorem g8z (n:Nat):∀(as bs:List Int) (k:Nat),a2r B10 as=true->a2r B10 bs=true->as.length<=10000000000->bs.length<=10000000000->a0c B10 bs<=n->n<k->loopP P.b7r k (bs,(as,()))=some (nd B10 (Nat.gcd (a0c B10 as) (a0c B10 bs)),()):=by
 induction n using Nat.strongRecOn with
 |ind n ih=>
  intro as bs k ca cb la lb hn hk;obtain⟨k,rfl⟩:∃j,k=j+1:=⟨k - 1,by omega⟩
  rw[a0j];unfold P.b7r;dsimp only
  by_cases hb:bs=[]
  ·subst hb;rw[if_neg (by simp),show a0c B10 []=0 from rfl,Nat.gcd_zero_right,a1d ca]
  ·have hpos:0<bs.length:=List.length_pos_iff.2 hb;have hb0:=f7n a0d cb hb;have hm:=Nat.mod_lt (a0c B10 as) (show 0<a0c B10 bs by omega);have hc:(bs.length:Int)>0:=by omega
   rw[if_pos (decide_eq_true hc)];show Option.bind (S.a4p (as,(bs,()))) (fun y3=>loopP P.b7r k (y3.1.2,(bs,())))=_;unfold S.a4p;dsimp only;rw[if_pos ⟨ca,cb,hb,la,lb⟩,Option.bind_some];dsimp only;have hl:(nd B10 (a0c B10 as%a0c B10 bs)).length<=bs.length:=by
    have:=f4f a0d (Nat.le_of_lt hm);rwa [a1d cb]at this
   have hd:a0c B10 (nd B10 (a0c B10 as%a0c B10 bs))=a0c B10 as%a0c B10 bs:=a0i a0d _;rw[ih (a0c B10 as%a0c B10 bs) (by omega) bs (nd B10 (a0c B10 as%a0c B10 bs)) k cb (a0m a0d _) lb (by omega) (by rw[hd];exact Nat.le_refl _) (by omega),hd,d9t]
def S.a3g (x:((List Int)×((List Int)×Unit))):(Option ((List Int)×Unit)):=if a2r B10 x.1=true/\a2r B10 x.2.1=true/\x.1.length<=10000000000/\x.2.1.length<=10000000000 then some (nd B10 (Nat.gcd (a0c B10 x.1) (a0c B10 x.2.1)),())else none
theorem S.e8v (x r) (h:S.a3g x=some r):∃k,P.d9a k x=some r:=by
 obtain⟨as,bs,u⟩:=x;unfold S.a3g at h;dsimp only at h;split at h
 case isFalse=>cases h
 rename_i hc;obtain⟨ca,cb,la,lb⟩:=hc;cases h;refine⟨a0c B10 bs+1,?_⟩;unfold P.d9a;exact g8z (a0c B10 bs) as bs _ ca cb la lb (Nat.le_refl _) (by omega)
abbrev s_l01NatRead.A:=Int×ByteArray×List Int×Unit
abbrev P.a3y (g2:s_l01NatRead.A->Option (List Int×Unit)) (x4:Int×Int×s_l01NatRead.A) (g5:Int×Int×s_l01NatRead.A->Option (List Int×Unit)):Option (List Int×Unit):=
 (fun(a b c:Int) (d:ByteArray) (e:List Int)=>if decide (a<b)then if decide (0<=a)then if decide (a<(d.size:Int))then g5 (wrap .i64 (a+1),b,wrap .i64 ((wrap .i64 (10*c))+(wrap .i64 (wrap .u8 ((a2h d a) - 48)))),d,e,())else none else none else if decide (((e.length+(List.length [c]))*8)<=140737488355328)then g2 (wrap .i64 (b - 9),d,e++[c],())else none) x4.1 x4.2.1 x4.2.2.1 x4.2.2.2.1 x4.2.2.2.2.1
abbrev P.a6i (k:Nat) (x1:s_l01NatRead.A) (g2:s_l01NatRead.A->Option (List Int×Unit)):Option (List Int×Unit):=
 if decide (x1.1>0)then if decide (x1.1>9)then loopP (P.a3y g2) k (wrap .i64 (x1.1 - 9),x1.1,0,x1.2.1,x1.2.2.1,())else loopP (P.a3y g2) k (0,x1.1,0,x1.2.1,x1.2.2.1,())else(S.a3x (x1.2.2.1,())).bind fun y9=>some (y9.1,())
def P.b9i (k:Nat) (x:ByteArray×Unit):Option (List Int×Unit):=
 loopP (P.a6i k) k ((x.1.size:Int),x.1,[],())
theorem g3m (g) (s:ByteArray) (l:List UInt8) (hL:s.data.toList=l) (hd:b9r l=true) (a n:Nat) (hn:n<=9) (han:a+n<=l.length) (hl:l.length<=1000000000) (out:List Int) (ho:out.length<=1000000000) (k:Nat) (hk:n<k):
  loopP (P.a3y g) k ((a:Int),(((a+n:Nat):Int),((0:Int),(s,(out,())))))=g (((a+n:Nat):Int) - 9,(s,(out++[((dv ((l.drop a).take n):Nat):Int)],()))):=by
 have hs:s.size=l.length:=by rw[<-hL,Array.length_toList];rfl
 have key:=a0f (k:=k) (b:=P.a3y g) (n:=n) (st:=fun i=>(((a+i:Nat):Int),((a+n:Nat):Int),((dv ((l.drop a).take i):Nat):Int),s,out,())) (F:=fun i=>g (((a+n:Nat):Int) - 9,(s,(out++[((dv ((l.drop a).take n):Nat):Int)],())))) (fun i g' hi hg'=>by
  unfold P.a3y;dsimp only at hg' ⊢;refine Eq.trans ?_ hg';have hi2:i<(l.drop a).length:=by rw[List.length_drop];omega
  have e1:((a+i:Nat):Int)<((a+n:Nat):Int):=by omega
  have e2:(0:Int)<=((a+i:Nat):Int):=by omega
  have e3:((a+i:Nat):Int)<(l.length:Int):=by omega
  have hb:a2h s ((a+i:Nat):Int)=(((l.drop a)[i]).toNat:Int):=by
   unfold a2h;rw[hL,a0n l (a+i) _ (by omega),List.getElem_drop]
  have hc:=f2v (c3w hd a) hi2;have hv:=f8x (d1k (c3w hd a) i);have hp:10^((l.drop a).take i).length<=10^9:=Nat.pow_le_pow_right (by decide) (by simp;omega);have hp9:(10:Nat)^9=1000000000:=by decide
  rw[hs,hb,wr (x:=((a+i:Nat):Int)+1) (by omega) (by omega)];simp only[e1,e2,e3,decide_true,if_true];rw[<-List.take_append_getElem hi2,h0e];generalize (l.drop a)[i].toNat=c at*;generalize dv ((l.drop a).take i)=v at*;have h8:IntKind.wrap .u8 ((c:Int) - 48)=(c:Int) - 48:=IntWalk.u8_in _ (by omega);rw[h8,wr (x:=(c:Int) - 48) (by omega) (by omega),wr (x:=10*(v:Int)) (by omega) (by omega),wr (x:=10*(v:Int)+((c:Int) - 48)) (by omega) (by omega),show 10*(v:Int)+((c:Int) - 48)=((10*v+(c - 48):Nat):Int) by omega];rfl) (fun g'=>by
  unfold P.a3y;dsimp only;have hcap:(out.length+ [((dv ((l.drop a).take n):Nat):Int)].length)*8<=140737488355328:=by
   rw[List.length_singleton];omega
  rw[if_neg (by simp),if_pos (decide_eq_true hcap),wr (by omega) (by omega)]) hk
 exact key
theorem g3n (s:ByteArray) (l:List UInt8) (hL:s.data.toList=l) (hd:b9r l=true) (hl:l.length<=1000000000) (K:Nat) (hK:9<K) (n:Nat):∀(to:Int) (out:List Int) (k:Nat),to<=(n:Int)-> -9<=to->to<=(l.length:Int)->n<k->dig B10 out=true->out.length+n<=l.length->a0c B10 out+B10^out.length*dv (l.take to.toNat)=dv l->
  loopP (P.a6i K) k (to,(s,(out,())))=some (nd B10 (dv l),()):=by
 induction n using Nat.strongRecOn with
 |ind n ih=>
  intro to out k hto hlo htl hk hdo hol hv;obtain⟨k,rfl⟩:∃j,k=j+1:=⟨k - 1,by omega⟩
  rw[a0j];unfold P.a6i;dsimp only
  by_cases h0:to>0
  ·rw[if_pos (decide_eq_true h0)];obtain⟨m,rfl⟩:∃m:Nat,to=(m:Int):=⟨to.toNat,by omega⟩
   rw[Int.toNat_natCast]at hv;have hB9:B10=10^9:=by decide
   have hstep:∀a c:Nat,c<=9->a+c=m->(c=9\/a=0)->loopP (P.a3y (loopP (P.a6i K) k)) K ((a:Int),((m:Int),((0:Int),(s,(out,())))))=some (nd B10 (dv l),()):=by
    intro a c hc9 hm hor;have hin:=g3m (loopP (P.a6i K) k) s l hL hd a c hc9 (by omega) hl out (by omega) K (by omega);rw[hm]at hin;rw[hin];have htk:l.take m=l.take a++(l.drop a).take c:=by rw[<-hm,List.take_add]
    have hpc:((l.drop a).take c).length=c:=by simp;omega
    have hpd:=f8x (d1k (c3w hd a) c);rw[hpc]at hpd;have hp9:10^c<=10^9:=Nat.pow_le_pow_right (by decide) hc9;have hpB:dv ((l.drop a).take c)<B10:=by rw[hB9];omega
    have hta:l.take ((m:Int) - 9).toNat=l.take a:=by
     rcases hor with g|g
     ·rw[show((m:Int) - 9).toNat=a by omega]
     ·subst g;rw[show((m:Int) - 9).toNat=0 by omega]
    refine ih (n - 1) (by omega) _ _ k (by omega) (by omega) (by omega) (by omega) ?_ (by rw[List.length_append,List.length_singleton];omega) ?_
    ·rw[a1m,hdo,Bool.true_and,a2k];exact⟨⟨by omega,by omega⟩,rfl⟩
    ·rw[hta,a0y,List.length_append,List.length_singleton,Nat.pow_succ,<-hv,htk,c3v,hpc];have e1:a0c B10 [((dv ((l.drop a).take c):Nat):Int)]=dv ((l.drop a).take c):=by rw[a0c,Int.toNat_natCast];rfl
     rw[e1];rcases hor with g|g
     ·rw[g,<-hB9,Nat.mul_assoc,Nat.mul_add,Nat.mul_comm B10];omega
     ·subst g;have:dv (l.take 0)=0:=by rw[List.take_zero];rfl
      rw[this,Nat.mul_zero,Nat.zero_mul,Nat.zero_add];omega
   by_cases h9:(m:Int)>9
   ·rw[if_pos (decide_eq_true h9),wr (by omega) (by omega),show(m:Int) - 9=((m - 9:Nat):Int) by omega];exact hstep (m - 9) 9 (Nat.le_refl _) (by omega) (.inl rfl)
   ·rw[if_neg (by simpa using h9)];exact hstep 0 m (by omega) (by omega) (.inr rfl)
  ·rw[if_neg (by simpa using h0)];have h00:to.toNat=0:=by omega
   rw[h00,List.take_zero,show dv []=0 from rfl,Nat.mul_zero,Nat.add_zero]at hv;unfold S.a3x;dsimp only;rw[if_pos ⟨hdo,by omega⟩,Option.bind_some,hv]
def S.a0s (x:(ByteArray×Unit)):(Option ((List Int)×Unit)):=if b9r x.1.data.toList=true/\x.1.data.toList.length<=1000000000 then some (nd B10 (dv x.1.data.toList),())else none
theorem S.d0u (x r) (h:S.a0s x=some r):∃k,P.b9i k x=some r:=by
 obtain⟨s,u⟩:=x;unfold S.a0s at h;dsimp only at h;split at h
 case isFalse=>cases h
 rename_i hc;obtain⟨hd,hl⟩:=hc;cases h;have hs:s.size=s.data.toList.length:=by rw[Array.length_toList];rfl
 refine⟨s.data.toList.length+10,?_⟩;unfold P.b9i;dsimp only;rw[hs];exact g3n s _ rfl hd hl _ (by omega) s.data.toList.length _ [] _ (Int.le_refl _) (by omega) (Int.le_refl _) (by omega) rfl (by simp) (by rw[Int.toNat_natCast,List.take_length];simp [a0c])
abbrev P.b1v (x1:Int×ByteArray×Unit) (g2:Int×ByteArray×Unit->Option (Bool×Unit)):Option (Bool×Unit):=
 (fun(a:Int) (b:ByteArray)=>if decide (a<(b.size:Int))then if decide (0<=a)then if decide (a<(b.size:Int))then if decide ((a2h b a)<48)then some (false,())else if decide (0<=a)then if decide (a<(b.size:Int))then if decide ((a2h b a)>57)then some (false,())else g2 (wrap .i64 (a+1),b,())else none else none else none else none else if decide ((b.size:Int)>=1)then if decide ((b.size:Int)<=200)then if(b.size:Int)==1 then some (true,())else if decide (0<(b.size:Int))then some ((a2h b 0) != 48,())else none else some (false,())else some (false,())) x1.1 x1.2.1
def P.c2f (k:Nat) (x:ByteArray×Unit):Option (Bool×Unit):=
 loopP P.b1v k (0,x.1,())
def S.a0x (x:(ByteArray×Unit)):(Option (Bool×Unit)):=if x.1.size<=281474976710656 then some (okN x.1.data.toList,())else none
theorem S.d5d (x r) (h:S.a0x x=some r):∃k,P.c2f k x=some r:=by
 obtain⟨s,u⟩:=x;unfold S.a0x at h;dsimp only at h;split at h
 case isFalse=>cases h
 rename_i hsz;cases h;have hs:s.size=s.data.toList.length:=by rw[Array.length_toList];rfl
 rw[hs]at hsz;refine⟨s.data.toList.length+1,?_⟩;unfold P.c2f;dsimp only;generalize hL:s.data.toList=l at*;have key:=a0f (k:=l.length+1) (b:=P.b1v) (n:=l.length) (st:=fun i=>((i:Int),s,())) (F:=fun i=>some (b9r (l.drop i)&&okR l,())) (fun i g hi hg=>by
  unfold P.b1v;dsimp only at hg ⊢;have e1:(i:Int)<(l.length:Int):=by omega
  have e2:(0:Int)<=(i:Int):=by omega
  have hb:a2h s (i:Int)=(l[i].toNat:Int):=by
   unfold a2h;rw[hL,a0n l i _ hi]
  have ha:b9r (l.drop i)=(isD l[i]&&b9r (l.drop (i+1))):=by
   rw[List.drop_eq_getElem_cons hi];rfl
  rw[hs,hb,wr (x:=(i:Int)+1) (by omega) (by omega),ha];simp only[e1,e2,decide_true,if_true];unfold isD
  by_cases c1:48<=l[i].toNat
  ·rw[if_neg (by simp;omega)]
   by_cases c2:l[i].toNat<=57
   ·rw[if_neg (by simp;omega),decide_eq_true ⟨c1,c2⟩,Bool.true_and];exact hg
   ·rw[if_pos (decide_eq_true (by omega)),decide_eq_false (fun q=>c2 q.2)];rfl
  ·rw[if_pos (decide_eq_true (by omega)),decide_eq_false (fun q=>c1 q.1)];rfl) (fun g=>by
  unfold P.b1v;dsimp only;rw[hs,if_neg (by simp),List.drop_length,show b9r []=true from rfl,Bool.true_and];unfold okR
  by_cases h1:l=[]
  ·subst h1;rfl
  ·have hpos:0<l.length:=List.length_pos_iff.2 h1;have d1:(l.length:Int)>=1:=by omega
   rw[if_pos (decide_eq_true d1),decide_eq_true h1,Bool.true_and]
   by_cases h2:l.length<=200
   ·have d2:(l.length:Int)<=200:=by omega
    rw[if_pos (decide_eq_true d2),decide_eq_true h2,Bool.true_and]
    by_cases h3:l.length=1
    ·have d3:(((l.length:Nat):Int)==(1:Int))=true:=by simp [h3]
     rw[if_pos d3,decide_eq_true h3,Bool.true_or]
    ·have d3:¬(((l.length:Nat):Int)==(1:Int))=true:=by simp;omega
     have d4:(0:Int)<(l.length:Int):=by omega
     rw[if_neg d3,if_pos (decide_eq_true d4),decide_eq_false h3,Bool.false_or];have hb:a2h s 0=(l[0].toNat:Int):=by
      unfold a2h;rw[hL];simp [hpos]
     have hh:l.head? =some l[0]:=by
      cases l with
      |nil=>simp at h1
      |cons c r=>rfl
     rw[hb,hh]
     by_cases c1:l[0]=48
     ·rw[c1];rfl
     ·have:¬((l[0].toNat:Int)=48):=by
       intro q;apply c1;apply UInt8.toNat_inj.1;show _=48;omega
      rw[decide_eq_true (by simpa using c1)];simpa [bne]using this
   ·have d2:¬(l.length:Int)<=200:=by omega
    rw[if_neg (by simpa using d2),decide_eq_false h2,Bool.false_and]) (by omega)
 rw[List.drop_zero]at key;exact key
end Go.Cm
end
