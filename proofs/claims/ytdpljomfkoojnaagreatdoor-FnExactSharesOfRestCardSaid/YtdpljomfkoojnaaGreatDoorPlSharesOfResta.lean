import Derived.Test.YtdpljomfkoojnaaGreatDoorCmZI
import Derived.Test.YtdpljomfkoojnaaGreatDoorCmXz
import Derived.Lib.Bits
import Derived.Lib.IndexMore
import Derived.Lib.ParseIntB
import Derived.Lib.Repeat
import Derived.Lib.Strings
set_option linter.unusedVariables false
set_option maxRecDepth 100000
noncomputable section
namespace Go.Cm
abbrev RB:=Bool×((List Int)×(List Int))
abbrev P.b1c (x1:Int×List ByteArray×Int×Unit) (g2:Int×List ByteArray×Int×Unit→Option (Int×Unit)):Option (Int×Unit):=
 if decide (x1.1<(x1.2.1.length:Int))then if decide ((0:Int)≤x1.1)then if decide (x1.1<(x1.2.1.length:Int))then if decide ((IntKind.wrap .i64 (x1.2.2.1 - (ByteArray.size (x1.2.1.getD x1.1.toNat (bs [])):Int)))<(0:Int))then some ((-1:Int),())else g2 (IntKind.wrap .i64 (x1.1+(1:Int)),x1.2.1,IntKind.wrap .i64 (x1.2.2.1 - (ByteArray.size (x1.2.1.getD x1.1.toNat (bs [])):Int)),())else none else none else some (x1.2.2.1,())
def P.c0w (k:Nat) (x:List ByteArray×Int×Unit):Option (Int×Unit):=
 if decide ((IntKind.wrap .i64 (x.2.1 - (x.1.length:Int)))<(0:Int))then some ((-1:Int),())else loopP P.b1c k ((0:Int),x.1,IntKind.wrap .i64 (x.2.1 - (x.1.length:Int)),())
def szGo:List ByteArray→Int→Int
 | [],l=>l
 |x::xs,l=>if l - (x.size:Int)<0 then -1 else szGo xs (l - (x.size:Int))
def szS (xs:List ByteArray) (left:Int):Int:=if left - (xs.length:Int)<0 then -1 else szGo xs (left - (xs.length:Int))
theorem szGo_le:∀(xs:List ByteArray) (l:Int),0≤l→szGo xs l≤l∧ -1≤szGo xs l
 | [],l,h=>by simp [szGo];omega
 |x::xs,l,h=>by
  simp only[szGo];split
  ·omega
  ·have:=szGo_le xs (l - (x.size:Int)) (by omega);omega
theorem szS_le (xs:List ByteArray) (l:Int) (h:0≤l):szS xs l≤l∧ -1≤szS xs l:=by
 unfold szS;split
 ·omega
 ·have:=szGo_le xs (l - (xs.length:Int)) (by omega);omega
theorem szS_len (xs:List ByteArray) (l:Int) (h:0≤szS xs l):(xs.length:Int)≤l:=by
 unfold szS at h;split at h<;>omega
abbrev okTexts (xs:List ByteArray):Prop:=xs.length≤9223372036854775807∧∀x∈xs,x.size≤9223372036854775807
open Classical in
def S.b0i (x:((List ByteArray)×(Int×Unit))):(Option (Int×Unit)):=if okTexts x.1∧0≤x.2.1∧x.2.1≤1000000 then some (szS x.1 x.2.1,())else none
theorem S.l_szStringS_ok (x r) (h:S.b0i x=some r):∃k,P.c0w k x=some r:=by
 obtain⟨xs,left,u⟩:=x;unfold S.b0i at h;split at h
 case isFalse=>cases h
 rename_i hc;obtain⟨⟨hl,hs⟩,h0,h1⟩:=hc;cases h;refine⟨xs.length+1,?_⟩;unfold P.c0w szS;dsimp only at hl hs h0 h1 ⊢;rw[wr (by omega) (by omega)]
 by_cases hn:left - (xs.length:Int)<0
 ·simp [hn]
 ·simp only[hn,decide_false,Bool.false_eq_true,if_false];have key:∀m i k l,i+m=xs.length→m<k→0≤l→l≤1000000→loopP P.b1c k ((i:Int),xs,l,())=some (szGo (xs.drop i) l,()):=by
   intro m
   induction m with
   |zero=>
    intro i k l hi hk h0 h1;cases k with
    |zero=>omega
    |succ k=>
     have:i=xs.length:=by omega
     subst this;simp [a0k,P.b1c,szGo]
   |succ m ih=>
    intro i k l hi hk h0 h1;cases k with
    |zero=>omega
    |succ k=>
     have hi':i<xs.length:=by omega
     have hsz:=hs xs[i] (List.getElem_mem hi');rw[a0k];unfold P.b1c;rw[List.drop_eq_getElem_cons hi'];dsimp only;rw[a0o xs i _ hi',wr (by omega) (by omega),wr (x:=(i:Int)+1) (by omega) (by omega)];have e1:(i:Int)<(xs.length:Int):=by omega
     have e2:(0:Int)≤(i:Int):=by omega
     simp only[e1,e2,decide_true,if_true,szGo]
     by_cases hq:l - (xs[i].size:Int)<0
     ·simp [hq]
     ·simp only[hq,decide_false,Bool.false_eq_true,if_false];have:=ih (i+1) k (l - (xs[i].size:Int)) (by omega) (by omega) (by omega) (by omega);rw[←this];rfl
  have:=key xs.length 0 (xs.length+1) (left - (xs.length:Int)) (by omega) (by omega) (by omega) (by omega);rw[List.drop_zero]at this;exact this
abbrev P.a8v (x1:Int×List (List ByteArray)×Int×Unit) (g2:Int×List (List ByteArray)×Int×Unit→Option (Int×Unit)):Option (Int×Unit):=
 if decide (x1.1<(x1.2.1.length:Int))then if decide ((0:Int)≤x1.1)then if decide (x1.1<(x1.2.1.length:Int))then(S.b0i (x1.2.1.getD x1.1.toNat ([]:List ByteArray),x1.2.2.1,())).bind fun y3=>if decide (y3.1<(0:Int))then some ((-1:Int),())else g2 (IntKind.wrap .i64 (x1.1+(1:Int)),x1.2.1,y3.1,())else none else none else some (x1.2.2.1,())
def P.b8d (k:Nat) (x:List (List ByteArray)×Int×Unit):Option (Int×Unit):=
 if decide ((IntKind.wrap .i64 (x.2.1 - (x.1.length:Int)))<(0:Int))then some ((-1:Int),())else loopP P.a8v k ((0:Int),x.1,IntKind.wrap .i64 (x.2.1 - (x.1.length:Int)),())
def c1y:List (List ByteArray)→Int→Int
 | [],l=>l
 |x::xs,l=>if szS x l<0 then -1 else c1y xs (szS x l)
def sz2 (xs:List (List ByteArray)) (left:Int):Int:=if left - (xs.length:Int)<0 then -1 else c1y xs (left - (xs.length:Int))
theorem sz2Go_le:∀(xs:List (List ByteArray)) (l:Int),0≤l→c1y xs l≤l∧ -1≤c1y xs l∧(0≤c1y xs l→∀x∈xs,(x.length:Int)≤l)
 | [],l,h=>by simp [c1y];omega
 |x::xs,l,h=>by
  have a:=szS_le x l h;simp only[c1y];split
  ·exact⟨by omega,by omega,fun h0=>by omega⟩
  ·obtain⟨b1,b2,b3⟩:=sz2Go_le xs (szS x l) (by omega);refine⟨by omega,b2,fun h0 y hy=> ?_⟩;rcases List.mem_cons.1 hy with rfl|hy
   ·exact szS_len y l (by omega)
   ·have:=b3 h0 y hy;omega
theorem sz2_le (xs:List (List ByteArray)) (l:Int) (h:0≤l):sz2 xs l≤l∧ -1≤sz2 xs l∧(0≤sz2 xs l→(xs.length:Int)≤l∧∀x∈xs,(x.length:Int)≤l):=by
 unfold sz2;split
 ·exact⟨by omega,by omega,fun h0=>by omega⟩
 ·obtain⟨a,b,c⟩:=sz2Go_le xs (l - (xs.length:Int)) (by omega);refine⟨by omega,b,fun h0=>⟨by omega,fun x hx=> ?_⟩⟩;have:=c h0 x hx;omega
abbrev okTT (xs:List (List ByteArray)):Prop:=xs.length≤9223372036854775807∧∀x∈xs,okTexts x
open Classical in
def S.a8e (x:((List (List ByteArray))×(Int×Unit))):(Option (Int×Unit)):=if okTT x.1∧0≤x.2.1∧x.2.1≤1000000 then some (sz2 x.1 x.2.1,())else none
theorem S.c8z (x r) (h:S.a8e x=some r):∃k,P.b8d k x=some r:=by
 obtain⟨xs,left,u⟩:=x;unfold S.a8e at h;split at h
 case isFalse=>cases h
 rename_i hc;obtain⟨⟨hl,hs⟩,h0,h1⟩:=hc;cases h;refine⟨xs.length+1,?_⟩;unfold P.b8d sz2;dsimp only at hl hs h0 h1 ⊢;rw[wr (by omega) (by omega)]
 by_cases hn:left - (xs.length:Int)<0
 ·simp [hn]
 ·simp only[hn,decide_false,Bool.false_eq_true,if_false];have key:∀m i k l,i+m=xs.length→m<k→0≤l→l≤1000000→loopP P.a8v k ((i:Int),xs,l,())=some (c1y (xs.drop i) l,()):=by
   intro m
   induction m with
   |zero=>
    intro i k l hi hk h0 h1;cases k with
    |zero=>omega
    |succ k=>
     have:i=xs.length:=by omega
     subst this;simp [a0k,P.a8v,c1y]
   |succ m ih=>
    intro i k l hi hk h0 h1;cases k with
    |zero=>omega
    |succ k=>
     have hi':i<xs.length:=by omega
     have hsz:=hs xs[i] (List.getElem_mem hi');rw[a0k];unfold P.a8v;rw[List.drop_eq_getElem_cons hi'];dsimp only;have e1:(i:Int)<(xs.length:Int):=by omega
     have e2:(0:Int)≤(i:Int):=by omega
     have a:=szS_le xs[i] l h0;have es:S.b0i (xs[i],l,())=some (szS xs[i] l,()):=by
      unfold S.b0i;rw[if_pos ⟨hsz,h0,h1⟩]
     rw[a0o xs i _ hi',wr (x:=(i:Int)+1) (by omega) (by omega),es];simp only[e1,e2,decide_true,if_true,c1y,Option.bind_some]
     by_cases hq:szS xs[i] l<0
     ·simp [hq]
     ·simp only[hq,decide_false,Bool.false_eq_true,if_false];have:=ih (i+1) k (szS xs[i] l) (by omega) (by omega) (by omega) (by omega);rw[←this];rfl
  have:=key xs.length 0 (xs.length+1) (left - (xs.length:Int)) (by omega) (by omega) (by omega) (by omega);rw[List.drop_zero]at this;exact this
def P.c1z (k:Nat) (x:List (List ByteArray)×Int×Unit):Option (Int×Unit):=
 (S.a8e (x.1,x.2.1,())).bind fun y0=>if decide (y0.1<(0:Int))then some ((-1:Int),())else some (y0.1,())
def S.b8e (x:((List (List ByteArray))×(Int×Unit))):(Option (Int×Unit)):=P.c1z 0 x
theorem S.l_szChain_ok (x r) (h:S.b8e x=some r):∃k,P.c1z k x=some r:=⟨0,h⟩
abbrev P.b1d (x1:Int×List ByteArray×List ByteArray×Unit) (g2:Int×List ByteArray×List ByteArray×Unit→Option (Bool×Unit)):Option (Bool×Unit):=
 if decide (x1.1<(x1.2.1.length:Int))then if decide ((0:Int)≤x1.1)then if decide (x1.1<(x1.2.1.length:Int))then if decide ((0:Int)≤x1.1)then if decide (x1.1<(x1.2.2.1.length:Int))then if ! ((ByteArray.toList (x1.2.1.getD x1.1.toNat (bs [])))==(ByteArray.toList (x1.2.2.1.getD x1.1.toNat (bs []))))then some (false,())else g2 (IntKind.wrap .i64 (x1.1+(1:Int)),x1.2.1,x1.2.2.1,())else none else none else none else none else some (true,())
def P.c0x (k:Nat) (x:List ByteArray×List ByteArray×Unit):Option (Bool×Unit):=
 if(x.1.length:Int) != (x.2.1.length:Int)then some (false,())else loopP P.b1d k ((0:Int),x.1,x.2.1,())
def S.a2l (x:((List ByteArray)×((List ByteArray)×Unit))):(Option (Bool×Unit)):=if x.1.length≤9223372036854775807 then some (b2i x.1 x.2.1,())else none
theorem S.l_eqStringS_ok (x r) (h:S.a2l x=some r):∃k,P.c0x k x=some r:=by
 obtain⟨xs,ys,u⟩:=x;unfold S.a2l at h;dsimp only at h;split at h
 case isFalse=>cases h
 rename_i hc;cases h;refine⟨xs.length+1,?_⟩;unfold P.c0x;dsimp only
 by_cases hl:xs.length=ys.length
 ·have e0:((xs.length:Int) != (ys.length:Int))=false:=by simp [hl]
  rw[if_neg (by rw[e0];simp)];have:=a0h (b:=P.b1d) (n:=xs.length) (st:=fun i=>((i:Int),xs,ys,())) (F:=fun i=>some (b2i (xs.drop i) (ys.drop i),())) (fun i g hi hg=>by
   have hy:i<ys.length:=by omega
   unfold P.b1d;dsimp only at hg ⊢;have e1:(i:Int)<(xs.length:Int):=by omega
   have e1':(i:Int)<(ys.length:Int):=by omega
   have e2:(0:Int)≤(i:Int):=by omega
   simp only[e1,e1',e2,decide_true,if_true];rw[a0o xs i _ hi,a0o ys i _ hy,wr (x:=(i:Int)+1) (by omega) (by omega),eqTexts_drop hi hy]
   by_cases hq:(xs[i].toList==ys[i].toList)=true
   ·simp only[hq,Bool.not_true,Bool.false_eq_true,if_false,Bool.true_and];exact hg
   ·have hq':(xs[i].toList==ys[i].toList)=false:=by simpa using hq
    simp only[hq',Bool.not_false,if_true,Bool.false_and]) (fun g=>by
   unfold P.b1d;have e1:¬((xs.length:Int)<(xs.length:Int)):=by omega
   simp only[e1,decide_false,Bool.false_eq_true,if_false];rw[List.drop_length,hl,List.drop_length];rfl) (Nat.lt_succ_self _)
  simpa using this
 ·rw[if_pos (by simp;omega),eqTexts_len hl]
abbrev P.b2q (x1:Int×ByteArray×Unit) (g2:Int×ByteArray×Unit→Option (ByteArray×Unit)):Option (ByteArray×Unit):=
 if decide (x1.1>(0:Int))then if decide (((ByteArray.size (b8r [IntKind.wrap .u8 (IntKind.wrap .i64 ((48:Int)+(Int.tmod x1.1 (10:Int))))]))+x1.2.1.size)≤(9223372036854775807:Nat))then g2 (IntKind.wrap .i64 (Int.tdiv x1.1 (10:Int)),(b8r [IntKind.wrap .u8 (IntKind.wrap .i64 ((48:Int)+(Int.tmod x1.1 (10:Int))))])++x1.2.1,())else none else if decide (((1:Nat)+x1.2.1.size)≤(9223372036854775807:Nat))then some ((bs [109])++x1.2.1,())else none
def P.b9s (k:Nat) (x:Int×Unit):Option (ByteArray×Unit):=
 if decide (x.1≤(0:Int))then some ((bs [109,48]),())else loopP P.b2q k (x.1,bs [],())
theorem mark_loop:∀(k:Nat) (n:Int) (t:ByteArray),0≤n→n<10^k→n≤1000000000000→t.size≤1000 - k→k≤100→∃r,loopP P.b2q (k+1) (n,(t,()))=some (r,()):=by
 intro k
 induction k with
 |zero=>
  intro n t h0 h1 hm ht hk;have hn:n=0:=by
   have:(10:Int)^0=1:=rfl;omega
  subst hn;refine⟨bs [109]++t,?_⟩;rw[a0k];unfold P.b2q;dsimp only;rw[if_neg (by simp),if_pos (decide_eq_true (by omega))]
 |succ k ih=>
  intro n t h0 h1 hm ht hk;rw[a0k];unfold P.b2q;dsimp only
  by_cases hp:n>0
  ·have hsz:∀z:Int,(b8r [z]).size=1:=fun z=>rfl
   rw[if_pos (decide_eq_true hp),if_pos (decide_eq_true (by rw[hsz];omega))];have hd:Int.tdiv n 10=n/10:=Int.tdiv_eq_ediv_of_nonneg h0;have hb:n/10<10^k:=by
    rw[Int.pow_succ]at h1;omega
   rw[hd,wr (x:=n/10) (by omega) (by omega)]
   exact ih (n/10) _ (by omega) hb (by omega) (by
    rw[ByteArray.size_append,hsz];omega) (by omega)
  ·rw[if_neg (by simpa using hp),if_pos (decide_eq_true (by omega))];exact⟨_,rfl⟩
def S.a6q (x:(Int×Unit)):(Option (ByteArray×Unit)):=if 0≤x.1∧x.1≤1000000000000 then P.b9s 14 x else none
theorem S.l_markText_ok (x r) (h:S.a6q x=some r):∃k,P.b9s k x=some r:=by
 unfold S.a6q at h;split at h
 case isFalse=>cases h
 exact⟨14,h⟩
def mkT (n:Int):ByteArray:=match S.a6q (n,())with
 |some r=>r.1
 |none=>bs []
theorem mkT_eq {n:Int} (h0:0≤n) (h1:n≤1000000000000):S.a6q (n,())=some (mkT n,()):=by
 have:∃t,S.a6q (n,())=some (t,()):=by
  unfold S.a6q;dsimp only;rw[if_pos ⟨h0,h1⟩];unfold P.b9s;dsimp only
  by_cases hn:n≤0
  ·rw[if_pos (decide_eq_true hn)];exact⟨_,rfl⟩
  ·rw[if_neg (by simpa using hn)];exact mark_loop 13 n _ h0 (by have:(10:Int)^13=10000000000000:=rfl;omega) h1 (by decide) (by decide)
 obtain⟨t,ht⟩:=this;unfold mkT;rw[ht]
def b5s (q:Int):Nat→List ByteArray
 |0=>[]
 |n+1=>b5s q n++[mkT (q+(n:Int))]
theorem a7a (q:Int) (n:Nat):(b5s q n).length=n:=by
 induction n with
 |zero=>rfl
 |succ n ih=>rw[b5s,List.length_append,ih];rfl
theorem marks_get (q:Int) (n i:Nat) (hi:i<n):(b5s q n)[i]'(by rw[a7a];exact hi)=mkT (q+(i:Int)):=by
 induction n with
 |zero=>omega
 |succ n ih=>
  unfold b5s
  by_cases h:i<n
  ·rw[List.getElem_append_left (by rw[a7a];exact h)];exact ih h
  ·have:i=n:=by omega
   subst this;rw[List.getElem_append_right (by rw[a7a];exact Nat.le_refl _)];simp [a7a]
abbrev P.a7o (x1:Int×List ByteArray×Int×Unit) (g2:Int×List ByteArray×Int×Unit→Option (Int×List ByteArray×Unit)):Option (Int×List ByteArray×Unit):=
 if decide (x1.1<(x1.2.1.length:Int))then(S.a6q (x1.2.2.1,())).bind fun y3=>if decide ((0:Int)≤x1.1)then if decide (x1.1<(x1.2.1.length:Int))then g2 (IntKind.wrap .i64 (x1.1+(1:Int)),x1.2.1.set ((0:Nat)+x1.1.toNat) y3.1,IntKind.wrap .i64 (x1.2.2.1+(1:Int)),())else none else none else some (x1.2.2.1,x1.2.1,())
def P.b6m (k:Nat) (x:List ByteArray×Int×Unit):Option (Int×List ByteArray×Unit):=
 loopP P.a7o k ((0:Int),x.1,x.2.1,())
def S.a3n (x:((List ByteArray)×(Int×Unit))):(Option (Int×((List ByteArray)×Unit))):=if 0≤x.2.1∧x.2.1≤100000000∧x.1.length≤10000000 then some (x.2.1+(x.1.length:Int),(b5s x.2.1 x.1.length,()))else none
theorem S.c6y (x r) (h:S.a3n x=some r):∃k,P.b6m k x=some r:=by
 obtain⟨xs,q,u⟩:=x;unfold S.a3n at h;dsimp only at h;split at h
 case isFalse=>cases h
 rename_i hc;obtain⟨h0,h1,h2⟩:=hc;cases h;refine⟨xs.length+1,?_⟩;unfold P.b6m;have key:=a0h (k:=xs.length+1) (b:=P.a7o) (n:=xs.length) (st:=fun i=>((i:Int),(b5s q i++xs.drop i,(q+(i:Int),())))) (F:=fun i=>some (q+(xs.length:Int),(b5s q xs.length,()))) (fun i g hi hg=>by
  unfold P.a7o;dsimp only at hg ⊢;have hlen:(b5s q i++xs.drop i).length=xs.length:=by rw[List.length_append,a7a,List.length_drop];omega
  have e1:(i:Int)<(xs.length:Int):=by omega
  have e2:(0:Int)≤(i:Int):=by omega
  rw[hlen,if_pos (decide_eq_true e1),mkT_eq (by omega) (by omega),Option.bind_some];dsimp only;rw[if_pos (decide_eq_true e2),if_pos (decide_eq_true e1),wr (by omega) (by omega),wr (by omega) (by omega),Nat.zero_add,Int.toNat_natCast];have hset:(b5s q i++xs.drop i).set i (mkT (q+(i:Int)))=b5s q (i+1)++xs.drop (i+1):=by
   rw[List.set_append_right _ _ (by rw[a7a];exact Nat.le_refl _),a7a,Nat.sub_self,List.drop_eq_getElem_cons hi,List.set_cons_zero,b5s,List.append_assoc];rfl
  rw[hset,show(i:Int)+1=((i+1:Nat):Int) by omega,show q+(i:Int)+1=q+((i+1:Nat):Int) by omega];exact hg) (fun g=>by
  unfold P.a7o;dsimp only;have hlen:(b5s q xs.length++xs.drop xs.length).length=xs.length:=by rw[List.length_append,a7a,List.length_drop];omega
  rw[hlen,if_neg (by simp),List.drop_length,List.append_nil]) (by omega)
 refine Eq.trans ?_ key;rw[show q+((0:Nat):Int)=q by omega];rfl
abbrev P.a7p (x1:Int×List ByteArray×Int×Unit) (g2:Int×List ByteArray×Int×Unit→Option (Int×Unit)):Option (Int×Unit):=
 if decide (x1.1<(x1.2.1.length:Int))then if decide ((0:Int)≤x1.1)then if decide (x1.1<(x1.2.1.length:Int))then(S.a6q (x1.2.2.1,())).bind fun y3=>if ! ((ByteArray.toList (x1.2.1.getD x1.1.toNat (bs [])))==(ByteArray.toList y3.1))then some ((-1:Int),())else g2 (IntKind.wrap .i64 (x1.1+(1:Int)),x1.2.1,IntKind.wrap .i64 (x1.2.2.1+(1:Int)),())else none else none else some (x1.2.2.1,())
def P.b6n (k:Nat) (x:List ByteArray×Int×Unit):Option (Int×Unit):=
 loopP P.a7p k ((0:Int),x.1,x.2.1,())
open Classical in
def S.a5b (x:((List ByteArray)×(Int×Unit))):(Option (Int×Unit)):=if 0≤x.2.1∧x.2.1≤100000000∧x.1.length≤10000000∧x.1=b5s x.2.1 x.1.length then some (x.2.1+(x.1.length:Int),())else none
theorem S.c6z (x r) (h:S.a5b x=some r):∃k,P.b6n k x=some r:=by
 obtain⟨xs,q,u⟩:=x;unfold S.a5b at h;dsimp only at h;split at h
 case isFalse=>cases h
 rename_i hc;obtain⟨h0,h1,h2,h3⟩:=hc;cases h;refine⟨xs.length+1,?_⟩;unfold P.b6n;have key:=a0h (k:=xs.length+1) (b:=P.a7p) (n:=xs.length) (st:=fun i=>((i:Int),(xs,(q+(i:Int),())))) (F:=fun i=>some (q+(xs.length:Int),())) (fun i g hi hg=>by
  unfold P.a7p;dsimp only at hg ⊢;have e1:(i:Int)<(xs.length:Int):=by omega
  have e2:(0:Int)≤(i:Int):=by omega
  have hx:xs[i]=mkT (q+(i:Int)):=by
   have:=marks_get q xs.length i hi;rw[←this];congr 1
  rw[if_pos (decide_eq_true e1),if_pos (decide_eq_true e2),if_pos (decide_eq_true e1),mkT_eq (by omega) (by omega),Option.bind_some,a0o xs i _ hi,hx];dsimp only;rw[beq_self_eq_true,if_neg (by decide),wr (by omega) (by omega),wr (by omega) (by omega),show(i:Int)+1=((i+1:Nat):Int) by omega,show q+(i:Int)+1=q+((i+1:Nat):Int) by omega];exact hg) (fun g=>by
  unfold P.a7p;dsimp only;rw[if_neg (by simp)]) (by omega)
 refine Eq.trans ?_ key;rw[show q+((0:Nat):Int)=q by omega];rfl
def P.a8f (k:Nat) (x:Int×Unit):Option (Int×Unit):=
 if(Int.tmod x.1 (6:Int))==(5:Int)then some ((0:Int),())else if(Int.tmod x.1 (3:Int))==(0:Int)then some ((1:Int),())else some (x.1,())
def S.a1x (x:(Int×Unit)):(Option (Int×Unit)):=P.a8f 0 x
theorem S.c9a (x r) (h:S.a1x x=some r):∃k,P.a8f k x=some r:=⟨0,h⟩
def P.a8w (k:Nat) (x:(List ByteArray×Nat)×(List ByteArray×Nat)×Unit):Option (Bool×Unit):=
 (S.a1x (((x.2.1.2:Nat):Int),())).bind fun y0=>if((x.1.2:Nat):Int)==((x.2.1.2:Nat):Int)then if decide ((0:Int)≤(IntKind.wrap .i64 (((x.2.1.2:Nat):Int)+y0.1)))then if decide ((IntKind.wrap .i64 (((x.2.1.2:Nat):Int)+y0.1))≤(x.1.1.length:Int))then if decide ((0:Int)≤(IntKind.wrap .i64 (((x.2.1.2:Nat):Int)+y0.1)))then if decide ((0:Int)≤(IntKind.wrap .i64 (((x.2.1.2:Nat):Int)+y0.1)))then if decide ((IntKind.wrap .i64 (((x.2.1.2:Nat):Int)+y0.1))≤(x.2.1.1.length:Int))then if decide ((0:Int)≤(IntKind.wrap .i64 (((x.2.1.2:Nat):Int)+y0.1)))then(S.a2l (seen x.1.1 (0:Nat) ((Int.toNat (IntKind.wrap .i64 (((x.2.1.2:Nat):Int)+y0.1))) - (0:Nat)),seen x.2.1.1 (0:Nat) ((Int.toNat (IntKind.wrap .i64 (((x.2.1.2:Nat):Int)+y0.1))) - (0:Nat)),())).bind fun y1=>some (y1.1,())else none else none else none else none else none else none else some (false,())
def S.a5z (x:(((List ByteArray)×Nat)×(((List ByteArray)×Nat)×Unit))):(Option (Bool×Unit)):=P.a8w 0 x
theorem S.c2a (x r) (h:S.a5z x=some r):∃k,P.a8w k x=some r:=⟨0,h⟩
theorem room_eq (n:Nat):S.a1x ((n:Int),())=some (rb n,()):=by
 unfold S.a1x P.a8f rb;simp only[beq_iff_eq];split
 ·rfl
 ·split<;>rfl
theorem eqStringS_eq (xs ys:List ByteArray) (h:xs.length≤9223372036854775807):S.a2l (xs,ys,())=some (b2i xs ys,()):=by simp [S.a2l,h]
theorem tos_false (xs:List ByteArray):tos a4d false xs=(xs++List.replicate (rb xs.length).toNat a4d,xs.length):=by simp [tos]
theorem c7a (xs:List ByteArray) (h:xs.length≤1000000):S.a5z (((tos a4d false xs).1,(tos a4d false xs).2),((tos a4d false xs).1,(tos a4d false xs).2),())=some (true,()):=by
 rw[tos_false];have hr:=rb_le xs.length;unfold S.a5z P.a8w;dsimp only;rw[room_eq,Option.bind_some,wr (by omega) (by omega)];have hl:((xs++List.replicate (rb xs.length).toNat a4d).length:Int)=(xs.length:Int)+rb xs.length:=by
  rw[List.length_append,List.length_replicate];omega
 have e1:(0:Int)≤(xs.length:Int)+rb xs.length:=by omega
 have e2:(xs.length:Int)+rb xs.length≤(xs.length:Int)+rb xs.length:=by omega
 simp only[hl,e1,e2,decide_true,if_true,beq_self_eq_true];rw[eqStringS_eq _ _ (by simp [seen];omega),c6p,Option.bind_some]
abbrev P.a8x (x1:Int×List (List ByteArray)×List (List ByteArray)×Unit) (g2:Int×List (List ByteArray)×List (List ByteArray)×Unit→Option (Bool×Unit)):Option (Bool×Unit):=
 if decide (x1.1<(x1.2.1.length:Int))then if decide ((0:Int)≤x1.1)then if decide (x1.1<(x1.2.1.length:Int))then if decide ((0:Int)≤x1.1)then if decide (x1.1<(x1.2.2.1.length:Int))then(S.a2l (x1.2.1.getD x1.1.toNat ([]:List ByteArray),x1.2.2.1.getD x1.1.toNat ([]:List ByteArray),())).bind fun y3=>if !y3.1 then some (false,())else g2 (IntKind.wrap .i64 (x1.1+(1:Int)),x1.2.1,x1.2.2.1,())else none else none else none else none else some (true,())
def P.b8f (k:Nat) (x:List (List ByteArray)×List (List ByteArray)×Unit):Option (Bool×Unit):=
 if(x.1.length:Int) != (x.2.1.length:Int)then some (false,())else loopP P.a8x k ((0:Int),x.1,x.2.1,())
def eqTT (xs ys:List (List ByteArray)):Bool:=xs.map (fun r=>r.map ByteArray.toList)==ys.map (fun r=>r.map ByteArray.toList)
theorem eqTT_refl (xs:List (List ByteArray)):eqTT xs xs=true:=by simp [eqTT]
theorem eqTT_len {xs ys:List (List ByteArray)} (h:xs.length≠ys.length):eqTT xs ys=false:=by
 unfold eqTT;rw[beq_eq_false_iff_ne];intro e;have:=congrArg List.length e;simp at this;exact h this
theorem eqTT_drop {xs ys:List (List ByteArray)} {i:Nat} (hx:i<xs.length) (hy:i<ys.length):eqTT (xs.drop i) (ys.drop i)=(b2i xs[i] ys[i]&&eqTT (xs.drop (i+1)) (ys.drop (i+1))):=by
 rw[List.drop_eq_getElem_cons hx,List.drop_eq_getElem_cons hy];rfl
open Classical in
def S.b1p (x:((List (List ByteArray))×((List (List ByteArray))×Unit))):(Option (Bool×Unit)):=if x.1.length≤9223372036854775807∧∀r∈x.1,r.length≤9223372036854775807 then some (eqTT x.1 x.2.1,())else none
theorem S.c9b (x r) (h:S.b1p x=some r):∃k,P.b8f k x=some r:=by
 obtain⟨xs,ys,u⟩:=x;unfold S.b1p at h;dsimp only at h;split at h
 case isFalse=>cases h
 rename_i hc;obtain⟨hc,hr⟩:=hc;cases h;refine⟨xs.length+1,?_⟩;unfold P.b8f;dsimp only
 by_cases hl:xs.length=ys.length
 ·have e0:((xs.length:Int) != (ys.length:Int))=false:=by simp [hl]
  rw[if_neg (by rw[e0];simp)];have:=a0h (b:=P.a8x) (n:=xs.length) (st:=fun i=>((i:Int),xs,ys,())) (F:=fun i=>some (eqTT (xs.drop i) (ys.drop i),())) (fun i g hi hg=>by
   have hy:i<ys.length:=by omega
   unfold P.a8x;dsimp only at hg ⊢;have e1:(i:Int)<(xs.length:Int):=by omega
   have e1':(i:Int)<(ys.length:Int):=by omega
   have e2:(0:Int)≤(i:Int):=by omega
   have es:S.a2l (xs[i],ys[i],())=some (b2i xs[i] ys[i],()):=by simp [S.a2l,hr xs[i] (List.getElem_mem hi)]
   simp only[e1,e1',e2,decide_true,if_true];rw[a0o xs i _ hi,a0o ys i _ hy,wr (x:=(i:Int)+1) (by omega) (by omega),eqTT_drop hi hy,es,Option.bind_some];cases hq:b2i xs[i] ys[i]
   ·simp
   ·simp only[Bool.not_true,Bool.false_eq_true,if_false,Bool.true_and];exact hg) (fun g=>by
   unfold P.a8x;have e1:¬((xs.length:Int)<(xs.length:Int)):=by omega
   simp only[e1,decide_false,Bool.false_eq_true,if_false];rw[List.drop_length,hl,List.drop_length];rfl) (Nat.lt_succ_self _)
  simpa using this
 ·rw[if_pos (by simp;omega),eqTT_len hl]
abbrev l_intactStringSS.A:=Int×(List (List ByteArray×Nat)×Nat)×(List (List ByteArray×Nat)×Nat)×Int×Unit
abbrev P.a5c (x2:l_intactStringSS.A) (g3:l_intactStringSS.A→Option (Bool×Unit)):Option (Bool×Unit):=
 (fun(a d:Int) (b c:(List (List ByteArray×Nat)×Nat))=>if decide (a<((b.2:Nat):Int))then if decide ((0:Int)≤a)then if decide (a<((c.2:Nat):Int))then if decide ((0:Int)≤a)then if decide (a<((b.2:Nat):Int))then(S.a5z (((c.1.getD a.toNat (([]:List ByteArray),0)).1,(c.1.getD a.toNat (([]:List ByteArray),0)).2),((b.1.getD a.toNat (([]:List ByteArray),0)).1,(b.1.getD a.toNat (([]:List ByteArray),0)).2),())).bind fun y4=>if !y4.1 then some (false,())else g3 (IntKind.wrap .i64 (a+(1:Int)),(b.1,b.2),(c.1,c.2),d,())else none else none else none else none else if decide ((0:Int)≤d)then if decide (d≤(c.1.length:Int))then if decide ((0:Int)≤((b.2:Nat):Int))then if decide (((b.2:Nat):Int)≤d)then if decide ((0:Int)≤d)then if decide (d≤(b.1.length:Int))then if decide ((0:Int)≤((b.2:Nat):Int))then if decide (((b.2:Nat):Int)≤d)then(S.b1p (List.map (fun(y5:List ByteArray×Nat)=>List.map (fun(y6:ByteArray)=>y6) (List.take y5.2 y5.1)) (seen c.1 (Int.toNat ((b.2:Nat):Int)) (d.toNat - (Int.toNat ((b.2:Nat):Int)))),List.map (fun(y7:List ByteArray×Nat)=>List.map (fun(y8:ByteArray)=>y8) (List.take y7.2 y7.1)) (seen b.1 (Int.toNat ((b.2:Nat):Int)) (d.toNat - (Int.toNat ((b.2:Nat):Int)))),())).bind fun y9=>some (y9.1,())else none else none else none else none else none else none else none else none) x2.1 x2.2.2.2.1 x2.2.1 x2.2.2.1
def P.b2f (k:Nat) (x:(List (List ByteArray×Nat)×Nat)×(List (List ByteArray×Nat)×Nat)×Unit):Option (Bool×Unit):=
 (S.a1x (((x.2.1.2:Nat):Int),())).bind fun y0=>if((x.1.2:Nat):Int) != ((x.2.1.2:Nat):Int)then some (false,())else loopP P.a5c k ((0:Int),(x.2.1.1,x.2.1.2),(x.1.1,x.1.2),IntKind.wrap .i64 (((x.2.1.2:Nat):Int)+y0.1),())
open Classical in
def S.a4e (x:(((List ((List ByteArray)×Nat))×Nat)×(((List ((List ByteArray)×Nat))×Nat)×Unit))):(Option (Bool×Unit)):=if ∃xs,okRS xs∧x=(c8r false xs,c8r false xs,())then some (true,())else none
theorem tos2_false (xs:List (List ByteArray)):c8r false xs=(xs.map (tos a4d false)++List.replicate (rb xs.length).toNat b5f,xs.length):=by simp [c8r]
theorem S.c0y (x r) (h:S.a4e x=some r):∃k,P.b2f k x=some r:=by
 unfold S.a4e at h;split at h
 case isFalse=>cases h
 rename_i hc;cases h;obtain⟨xs,⟨hl,hr⟩,rfl⟩:=hc;refine⟨xs.length+1,?_⟩;have hb:=rb_le xs.length;rw[tos2_false];unfold P.b2f;dsimp only;rw[room_eq,Option.bind_some,wr (by omega) (by omega)];rw[if_neg (by simp)];generalize hA:xs.map (tos a4d false)++List.replicate (rb xs.length).toNat b5f=A;have hAl:(A.length:Int)=(xs.length:Int)+rb xs.length:=by
  rw[←hA,List.length_append,List.length_map,List.length_replicate];omega
 have hget:∀i (hi:i<xs.length),A.getD i ([],0)=tos a4d false xs[i]:=by
  intro i hi;rw[←hA,List.getD_eq_getElem?_getD,List.getElem?_append_left (by simpa using hi)];simp [hi]
 have:=a0h (k:=xs.length+1) (b:=P.a5c) (n:=xs.length) (st:=fun i=>((i:Int),(A,xs.length),(A,xs.length),(xs.length:Int)+rb xs.length,())) (F:=fun i=>some (true,())) (fun i g hi hg=>by
  unfold P.a5c;dsimp only at hg ⊢;have e1:(i:Int)<(xs.length:Int):=by omega
  have e2:(0:Int)≤(i:Int):=by omega
  simp only[e1,e2,decide_true,if_true,Int.toNat_natCast,hget i hi];rw[c7a xs[i] (hr _ (List.getElem_mem hi)),wr (x:=(i:Int)+1) (by omega) (by omega),Option.bind_some];simp only[Bool.not_true,Bool.false_eq_true,if_false];exact hg) (fun g=>by
  unfold P.a5c;dsimp only;have e1:¬((xs.length:Int)<(xs.length:Int)):=by omega
  have e2:(0:Int)≤(xs.length:Int)+rb xs.length:=by omega
  have e3:(xs.length:Int)+rb xs.length≤(xs.length:Int)+rb xs.length:=by omega
  have e4:(0:Int)≤(xs.length:Int):=by omega
  have e5:(xs.length:Int)≤(xs.length:Int)+rb xs.length:=by omega
  simp only[e1,hAl,e2,e3,e4,e5,decide_true,decide_false,if_true,Bool.false_eq_true,if_false];have hs:seen A (Int.toNat (xs.length:Int)) (Int.toNat ((xs.length:Int)+rb xs.length) - Int.toNat (xs.length:Int))=List.replicate (rb xs.length).toNat b5f:=by
   unfold seen;rw[←hA];have:Int.toNat (xs.length:Int)=(xs.map (tos a4d false)).length:=by simp
   rw[this,List.drop_left];apply List.take_of_length_le;simp;omega
  rw[hs];unfold S.b1p;rw[if_pos,eqTT_refl]
  ·rfl
  ·refine⟨by simp;omega,fun r hr=> ?_⟩;simp only[List.map_replicate,List.mem_replicate]at hr;rw[hr.2];simp [b5f]) (by omega)
 exact this
def P.b2r (k:Nat) (x:(List (List ByteArray×Nat)×Nat)×(List (List ByteArray×Nat)×Nat)×Unit):Option (Bool×Unit):=
 (S.a4e ((x.1.1,x.1.2),(x.2.1.1,x.2.1.2),())).bind fun y0=>if !y0.1 then some (false,())else some (true,())
def S.a8y (x:(((List ((List ByteArray)×Nat))×Nat)×(((List ((List ByteArray)×Nat))×Nat)×Unit))):(Option (Bool×Unit)):=P.b2r 0 x
theorem S.c7b (x r) (h:S.a8y x=some r):∃k,P.b2r k x=some r:=⟨0,h⟩
abbrev l_markStringSS.A:=Option (Int×List (List ByteArray×Nat)×Unit)
abbrev P.a6r (x2:Int×List (List ByteArray×Nat)×Int×Unit) (g3:Int×List (List ByteArray×Nat)×Int×Unit→l_markStringSS.A):l_markStringSS.A:=
 (fun(a c:Int) (b:List (List ByteArray×Nat))=>if decide (a<(List.length (hd0 b):Int))then if decide ((0:Int)≤a)then if decide (a<(List.length (hd0 b):Int))then(S.a3n (seen (List.getD (in0 b) (List.getD (hd0 b) ((0:Nat)+a.toNat) (0,0)).1 ([]:List ByteArray)) 0 (List.getD (hd0 b) ((0:Nat)+a.toNat) (0,0)).2,c,())).bind fun y4=>if dup (List.map (fun(y5:Nat×Nat)=>y5.1) (hd0 b))then none else g3 (IntKind.wrap .i64 (a+(1:Int)),nrm (hd0 b) (List.set (in0 b) (List.getD (hd0 b) ((0:Nat)+a.toNat) (0,0)).1 (splice (List.getD (in0 b) (List.getD (hd0 b) ((0:Nat)+a.toNat) (0,0)).1 ([]:List ByteArray)) y4.2.1 0)),y4.1,())else none else none else if dup (List.map (fun(y6:Nat×Nat)=>y6.1) (hd0 b))then none else some (c,nrm (hd0 b) (in0 b),())) x2.1 x2.2.2.1 x2.2.1
def P.b5m (k:Nat) (x:List (List ByteArray×Nat)×Int×Unit):l_markStringSS.A:=
 if dup (List.map (fun(y0:Nat×Nat)=>y0.1) (hd0 x.1))then none else loopP P.a6r k ((0:Int),nrm (hd0 x.1) (in0 x.1),x.2.1,())
def b8g:List (List ByteArray×Nat)→Nat
 | []=>0
 |r::m=>(seen r.1 0 r.2).length+b8g m
def mk2 (q:Int):List (List ByteArray×Nat)→List (List ByteArray×Nat)
 | []=>[]
 |r::m=>(splice r.1 (b5s q (seen r.1 0 r.2).length) 0,r.2)::mk2 (q+((seen r.1 0 r.2).length:Int)) m
theorem mk2_len (q:Int) (m:List (List ByteArray×Nat)):(mk2 q m).length=m.length:=by
 induction m generalizing q with
 |nil=>rfl
 |cons r m ih=>simp [mk2,ih]
theorem c9c (a b:List (List ByteArray×Nat)):b8g (a++b)=b8g a+b8g b:=by
 induction a with
 |nil=>simp [b8g]
 |cons r a ih=>rw[List.cons_append,b8g,b8g,ih];omega
theorem mk2_snoc (q:Int) (a:List (List ByteArray×Nat)) (r:List ByteArray×Nat):mk2 q (a++[r])=mk2 q a++[(splice r.1 (b5s (q+(b8g a:Int)) (seen r.1 0 r.2).length) 0,r.2)]:=by
 induction a generalizing q with
 |nil=>simp [mk2,b8g]
 |cons b a ih=>
  rw[List.cons_append,mk2,mk2,ih,b8g,List.cons_append,show q+((seen b.1 0 b.2).length:Int)+(b8g a:Int)=q+(((seen b.1 0 b.2).length+b8g a:Nat):Int) by omega]
def S.a7b (x:((List ((List ByteArray)×Nat))×(Int×Unit))):(Option (Int×((List ((List ByteArray)×Nat))×Unit))):=if 0≤x.2.1∧x.2.1≤1000000∧b8g x.1≤10000000∧x.1.length≤10000000 then some (x.2.1+(b8g x.1:Int),(mk2 x.2.1 x.1,()))else none
theorem S.c4a (x r) (h:S.a7b x=some r):∃k,P.b5m k x=some r:=by
 obtain⟨m,q,u⟩:=x;unfold S.a7b at h;dsimp only at h;split at h
 case isFalse=>cases h
 rename_i hc;obtain⟨h0,h1,h2,h3⟩:=hc;cases h;refine⟨m.length+1,?_⟩;unfold P.b5m;dsimp only;have key:=a0h (k:=m.length+1) (b:=P.a6r) (n:=m.length) (st:=fun i=>((i:Int),(mk2 q (m.take i)++m.drop i,(q+(b8g (m.take i):Int),())))) (F:=fun i=>some (q+(b8g m:Int),(mk2 q m,()))) (fun i g hi hg=>by
  unfold P.a6r;dsimp only at hg ⊢;have hl:(mk2 q (m.take i)).length=i:=by rw[mk2_len,List.length_take];omega
  have hlen:(mk2 q (m.take i)++m.drop i).length=m.length:=by rw[List.length_append,hl,List.length_drop];omega
  have hget:(mk2 q (m.take i)++m.drop i)[i]'(by rw[hlen];exact hi)=m[i]:=by
   rw[List.getElem_append_right (by omega)];simp [hl]
  have e1:(i:Int)<(m.length:Int):=by omega
  have e2:(0:Int)≤(i:Int):=by omega
  have et:m=m.take i++m[i]::m.drop (i+1):=by rw[←List.drop_eq_getElem_cons hi,List.take_append_drop]
  have en:b8g (m.take i)+((seen m[i].1 0 m[i].2).length+b8g (m.drop (i+1)))=b8g m:=by
   conv=>rhs;rw[et,c9c,b8g]
  have em:S.a3n (seen m[i].1 0 m[i].2,(q+(b8g (m.take i):Int),()))=some (q+(b8g (m.take i):Int)+((seen m[i].1 0 m[i].2).length:Int),(b5s (q+(b8g (m.take i):Int)) (seen m[i].1 0 m[i].2).length,())):=by
   unfold S.a3n;exact if_pos ⟨by show 0≤q+(b8g (m.take i):Int);omega,by show q+(b8g (m.take i):Int)≤100000000;omega,by show(seen m[i].1 0 m[i].2).length≤10000000;omega⟩
  simp only[a0q,hlen,e1,e2,decide_true,if_true,Nat.zero_add,Int.toNat_natCast];rw[hd0_at _ (by rw[hlen];exact hi)];dsimp only;rw[in0_at _ (by rw[hlen];exact hi),hget,em,Option.bind_some];simp only[a1p,Bool.false_eq_true,if_false];rw[d1y _ (by rw[hlen];exact hi),hget,wr (by omega) (by omega)];have e5:(mk2 q (m.take i)++m.drop i).set i (splice m[i].1 (b5s (q+(b8g (m.take i):Int)) (seen m[i].1 0 m[i].2).length) 0,m[i].2)=mk2 q (m.take (i+1))++m.drop (i+1):=by
   rw[List.set_append_right _ _ (by omega),hl,Nat.sub_self,List.drop_eq_getElem_cons hi,List.set_cons_zero,←List.take_append_getElem hi,mk2_snoc,List.append_assoc];rfl
  have e6:q+(b8g (m.take i):Int)+((seen m[i].1 0 m[i].2).length:Int)=q+(b8g (m.take (i+1)):Int):=by
   rw[←List.take_append_getElem hi,c9c];simp only[b8g];omega
  rw[e5,e6,←hg];rfl) (fun g=>by
  unfold P.a6r;dsimp only;rw[List.take_length,List.drop_length,List.append_nil];simp only[a0q,mk2_len,a1p,a1z,Bool.false_eq_true,if_false];rw[if_neg (by simp)]) (by omega)
 simp only[a1p,a1z,Bool.false_eq_true,if_false];refine Eq.trans ?_ key;simp [b8g,mk2]
def P.b6o (k:Nat) (x:List (List ByteArray×Nat)×Int×Unit):Option (Int×List (List ByteArray×Nat)×Unit):=
 if dup (List.map (fun(y0:Nat×Nat)=>y0.1) (hd0 x.1))then none else(S.a7b (nrm (hd0 x.1) (in0 x.1),x.2.1,())).bind fun y1=>if dup (List.map (fun(y2:Nat×Nat)=>y2.1) (hd0 y1.2.1))then none else some (y1.1,nrm (hd0 y1.2.1) (in0 y1.2.1),())
def S.b3t (x:((List ((List ByteArray)×Nat))×(Int×Unit))):(Option (Int×((List ((List ByteArray)×Nat))×Unit))):=P.b6o 0 x
theorem S.l_markChain_ok (x r) (h:S.b3t x=some r):∃k,P.b6o k x=some r:=⟨0,h⟩
abbrev l_toStringSo.A:=Int×List ByteArray×List ByteArray×Unit
abbrev l_toStringSo.B:=Option ((List ByteArray×Nat)×Unit)
abbrev P.a6a (x5:l_toStringSo.A) (g6:l_toStringSo.A→l_toStringSo.B):l_toStringSo.B:=
 if decide (x5.1<(x5.2.1.length:Int))then if decide ((0:Int)≤x5.1)then if decide (x5.1<(x5.2.1.length:Int))then g6 (IntKind.wrap .i64 (x5.1+(1:Int)),x5.2.1.set ((0:Nat)+x5.1.toNat) (bs [126,115,112,97,114,101,126]),x5.2.2.1,())else none else none else if decide ((0:Int)≤(x5.2.2.1.length:Int))then if decide (((x5.2.2.1.length:Int)+(0:Int))≤(x5.2.1.length:Int))then if decide ((0:Int)≤(x5.2.2.1.length:Int))then some ((x5.2.1,(Int.toNat (x5.2.2.1.length:Int)) - (0:Nat)),())else none else none else none
abbrev P.a3u (k:Nat) (x2:l_toStringSo.A) (g3:l_toStringSo.A→l_toStringSo.B):l_toStringSo.B:=
 if decide (x2.1<(x2.2.1.length:Int))then if decide ((0:Int)≤x2.1)then if decide (x2.1<(x2.2.1.length:Int))then if decide ((0:Int)≤x2.1)then if decide (x2.1<(x2.2.2.1.length:Int))then g3 (IntKind.wrap .i64 (x2.1+(1:Int)),x2.2.1,x2.2.2.1.set ((0:Nat)+x2.1.toNat) (x2.2.1.getD x2.1.toNat (bs [])),())else none else none else none else none else loopP P.a6a k ((x2.2.1.length:Int),x2.2.2.1,x2.2.1,())
def P.b8h (k:Nat) (x:List ByteArray×Bool×Unit):l_toStringSo.B:=
 if x.2.1 then if(x.1.length:Int)==(0:Int)then some ((([]:List ByteArray),0),())else(S.a1x ((x.1.length:Int),())).bind fun y0=>if decide ((0:Int)≤(IntKind.wrap .i64 ((x.1.length:Int)+y0.1)))then if decide ((IntKind.wrap .i64 ((x.1.length:Int)+y0.1))≤(IntKind.wrap .i64 ((x.1.length:Int)+y0.1)))then if decide (((IntKind.wrap .i64 ((x.1.length:Int)+y0.1))*(16:Int))≤(281474976710656:Int))then loopP (P.a3u k) k ((0:Int),x.1,List.replicate (Int.toNat (IntKind.wrap .i64 ((x.1.length:Int)+y0.1))) (bs []),())else none else none else none else(S.a1x ((x.1.length:Int),())).bind fun y7=>if decide ((0:Int)≤(IntKind.wrap .i64 ((x.1.length:Int)+y7.1)))then if decide ((IntKind.wrap .i64 ((x.1.length:Int)+y7.1))≤(IntKind.wrap .i64 ((x.1.length:Int)+y7.1)))then if decide (((IntKind.wrap .i64 ((x.1.length:Int)+y7.1))*(16:Int))≤(281474976710656:Int))then loopP (P.a3u k) k ((0:Int),x.1,List.replicate (Int.toNat (IntKind.wrap .i64 ((x.1.length:Int)+y7.1))) (bs []),())else none else none else none
def S.a6b (x:((List ByteArray)×(Bool×Unit))):(Option (((List ByteArray)×Nat)×Unit)):=S.c1r x
theorem toStringSo_b4 (xs:List ByteArray) (m n k:Nat) (h:n=xs.length) (hl:n≤1000000) (hm:m≤n+1) (hk:m<k):
  loopP P.a6a k ((n:Int),xs++List.replicate m (bs []),xs,())=some ((xs++List.replicate m a4d,n),()):=by
 have key:=a0h (b:=P.a6a) (n:=m) (st:=fun i=>(((n+i:Nat):Int),(xs++List.replicate i a4d)++List.replicate (m - i) (bs []),xs,())) (F:=fun i=>some ((xs++List.replicate m a4d,n),())) (fun i g hi hg=>by
  unfold P.a6a;dsimp only at hg ⊢;have hlen:((xs++List.replicate i a4d)++List.replicate (m - i) (bs [])).length=n+m:=by simp;omega
  simp only[hlen];have e1:((n+i:Nat):Int)<((n+m:Nat):Int):=by omega
  have e2:(0:Int)≤((n+i:Nat):Int):=by omega
  simp only[e1,e2,decide_true,if_true];rw[wr (by omega) (by omega),←hg];congr 1;have e3:m - i=(m - (i+1))+1:=by omega
  have e4:(0+((n+i:Nat):Int).toNat)=(xs++List.replicate i a4d).length:=by rw[List.length_append,List.length_replicate];omega
  rw[e3,e4,c2n];simp only[List.replicate_succ',←List.append_assoc,a4d];rfl) (fun g=>by
  unfold P.a6a;dsimp only;have hlen:((xs++List.replicate m a4d)++List.replicate (m - m) (bs [])).length=n+m:=by simp;omega
  simp only[hlen];have e1:¬((n+m:Nat):Int)<((n+m:Nat):Int):=by omega
  have e2:(0:Int)≤(xs.length:Int):=by omega
  have e3:(xs.length:Int)+0≤((n+m:Nat):Int):=by omega
  simp only[e1,e2,e3,decide_true,decide_false,if_true,Bool.false_eq_true,if_false];simp [h]) hk
 simpa using key
theorem toStringSo_b1 (k0:Nat) (xs:List ByteArray) (m k:Nat) (hl:xs.length≤1000000) (hm:m≤xs.length+1) (hk0:m<k0) (hk:xs.length<k):
  loopP (P.a3u k0) k ((0:Int),xs,List.replicate (xs.length+m) (bs []),())=some ((xs++List.replicate m a4d,xs.length),()):=by
 have key:=a0h (b:=P.a3u k0) (n:=xs.length) (st:=fun i=>((i:Int),xs,xs.take i++List.replicate (xs.length - i+m) (bs []),())) (F:=fun i=>some ((xs++List.replicate m a4d,xs.length),())) (fun i g hi hg=>by
  unfold P.a3u;dsimp only at hg ⊢;have hlen:(xs.take i++List.replicate (xs.length - i+m) (bs [])).length=xs.length+m:=by simp;omega
  simp only[hlen];have e1:(i:Int)<(xs.length:Int):=by omega
  have e1':(i:Int)<((xs.length+m:Nat):Int):=by omega
  have e2:(0:Int)≤(i:Int):=by omega
  simp only[e1,e1',e2,decide_true,if_true];rw[wr (by omega) (by omega),a0o xs i _ hi,←hg];congr 1;have e3:xs.length - i+m=(xs.length - (i+1)+m)+1:=by omega
  have e4:(0+(i:Int).toNat)=(xs.take i).length:=by simp;omega
  rw[e3,e4,c2n];simp) (fun g=>by
  unfold P.a3u;dsimp only;have e1:¬(xs.length:Int)<(xs.length:Int):=by omega
  simp only[e1,decide_false,Bool.false_eq_true,if_false];have:=toStringSo_b4 xs m xs.length k0 rfl hl hm hk0;simpa using this) hk
 simpa using key
theorem S.c9d (x r) (h:S.a6b x=some r):∃k,P.b8h k x=some r:=by
 obtain⟨xs,bare,u⟩:=x;unfold S.a6b S.c1r at h;dsimp only at h;split at h
 case isFalse=>cases h
 rename_i hl;cases h;refine⟨xs.length+2,?_⟩;have hr:=rb_le xs.length;have go:(Option.bind (S.a1x (((List.length xs):Int),())) (fun(y0:(Int×Unit))=>(if((decide ((0:Int)≤(IntKind.wrap .i64 (((List.length xs):Int)+y0.1))))=true)then(if((decide ((IntKind.wrap .i64 (((List.length xs):Int)+y0.1))≤(IntKind.wrap .i64 (((List.length xs):Int)+y0.1))))=true)then(if((decide (((IntKind.wrap .i64 (((List.length xs):Int)+y0.1))*(16:Int))≤(281474976710656:Int)))=true)then(loopP (X:=(Int×((List ByteArray)×((List ByteArray)×Unit)))) (R:=(((List ByteArray)×Nat)×Unit)) (P.a3u (xs.length+2)) (xs.length+2) ((0:Int),(xs,((List.replicate (Int.toNat (IntKind.wrap .i64 (((List.length xs):Int)+y0.1))) (bs [])),()))))
 else none)
 else none)
 else none)))=some ((xs++List.replicate (rb xs.length).toNat a4d,xs.length),()):=by
  have e0:S.a1x ((xs.length:Int),())=some (rb xs.length,()):=by
   unfold S.a1x P.a8f rb;simp only[beq_iff_eq];split
   ·rfl
   ·split<;>rfl
  rw[e0,Option.bind_some];dsimp only;rw[wr (by omega) (by omega)];have e1:(0:Int)≤(xs.length:Int)+rb xs.length:=by omega
  have e2:(xs.length:Int)+rb xs.length≤(xs.length:Int)+rb xs.length:=by omega
  have e3:((xs.length:Int)+rb xs.length)*16≤281474976710656:=by omega
  simp only[e1,e2,e3,decide_true,if_true];have e4:((xs.length:Int)+rb xs.length).toNat=xs.length+(rb xs.length).toNat:=by omega
  rw[e4];exact toStringSo_b1 _ xs _ _ hl (by omega) (by omega) (by omega)
 unfold P.b8h tos;dsimp only;cases bare with
 |true=>
  simp only[if_true]
  by_cases hx:xs=[]
  ·subst hx;rfl
  ·have hx':¬((((xs.length:Nat):Int)==0)=true):=by
    simp [hx]
   rw[if_neg hx',if_neg (by simp [hx])];exact go
 |false=>
  simp only[Bool.false_eq_true,if_false,false_and];exact go
abbrev l_toStringSSo.A:=Int×List (List ByteArray)×List (List ByteArray×Nat)×Bool×Unit
abbrev l_toStringSSo.B:=Option ((List (List ByteArray×Nat)×Nat)×Unit)
abbrev P.a4f (x9:Int×List (List ByteArray×Nat)×List (List ByteArray)×Unit) (g10:Int×List (List ByteArray×Nat)×List (List ByteArray)×Unit→l_toStringSSo.B):l_toStringSSo.B:=
 if decide (x9.1<(List.length (hd0 x9.2.1):Int))then if decide ((0:Int)≤x9.1)then if decide (x9.1<(List.length (hd0 x9.2.1):Int))then if dup (List.map (fun(y11:Nat×Nat)=>y11.1) (List.set (hd0 x9.2.1) ((0:Nat)+x9.1.toNat) (List.length (in0 x9.2.1),(1:Nat))))then none else g10 (IntKind.wrap .i64 (x9.1+(1:Int)),nrm (List.set (hd0 x9.2.1) ((0:Nat)+x9.1.toNat) (List.length (in0 x9.2.1),(1:Nat))) ((in0 x9.2.1)++[[(bs [126,115,112,97,114,101,126])]]),x9.2.2.1,())else none else none else if decide ((0:Int)≤(x9.2.2.1.length:Int))then if decide (((x9.2.2.1.length:Int)+(0:Int))≤(List.length (hd0 x9.2.1):Int))then if decide ((0:Int)≤(x9.2.2.1.length:Int))then if dup (List.map (fun(y12:Nat×Nat)=>y12.1) (hd0 x9.2.1))then none else some ((nrm (hd0 x9.2.1) (in0 x9.2.1),(Int.toNat (x9.2.2.1.length:Int)) - (0:Nat)),())else none else none else none
abbrev P.a4g (k:Nat) (x3:l_toStringSSo.A) (g4:l_toStringSSo.A→l_toStringSSo.B):l_toStringSSo.B:=
 (fun(a:Int) (b:List (List ByteArray)) (c:List (List ByteArray×Nat)) (d:Bool)=>if decide (a<(b.length:Int))then if decide ((0:Int)≤a)then if decide (a<(b.length:Int))then(S.a6b (b.getD a.toNat ([]:List ByteArray),d,())).bind fun y5=>if decide ((0:Int)≤a)then if decide (a<(List.length (hd0 c):Int))then if dup (List.map (fun(y6:Nat×Nat)=>y6.1) (List.set (hd0 c) ((0:Nat)+a.toNat) (List.length (in0 c),y5.1.2)))then none else g4 (IntKind.wrap .i64 (a+(1:Int)),b,nrm (List.set (hd0 c) ((0:Nat)+a.toNat) (List.length (in0 c),y5.1.2)) ((in0 c)++[y5.1.1]),d,())else none else none else none else none else if dup (List.map (fun(y7:Nat×Nat)=>y7.1) (hd0 c))then none else loopP P.a4f k ((b.length:Int),nrm (hd0 c) (in0 c),b,())) x3.1 x3.2.1 x3.2.2.1 x3.2.2.2.1
abbrev P.b5t (k:Nat) (x16:l_toStringSSo.A) (g17:l_toStringSSo.A→l_toStringSSo.B):l_toStringSSo.B:=
 (fun(a:Int) (b:List (List ByteArray)) (c:List (List ByteArray×Nat)) (d:Bool)=>if decide (a<(b.length:Int))then if decide ((0:Int)≤a)then if decide (a<(b.length:Int))then(S.a6b (b.getD a.toNat ([]:List ByteArray),d,())).bind fun y18=>if decide ((0:Int)≤a)then if decide (a<(List.length (hd0 c):Int))then if dup (List.map (fun(y19:Nat×Nat)=>y19.1) (List.set (hd0 c) ((0:Nat)+a.toNat) (List.length (in0 c),y18.1.2)))then none else g17 (IntKind.wrap .i64 (a+(1:Int)),b,nrm (List.set (hd0 c) ((0:Nat)+a.toNat) (List.length (in0 c),y18.1.2)) ((in0 c)++[y18.1.1]),d,())else none else none else none else none else if dup (List.map (fun(y20:Nat×Nat)=>y20.1) (hd0 c))then none else loopP P.a4f k ((b.length:Int),nrm (hd0 c) (in0 c),b,())) x16.1 x16.2.1 x16.2.2.1 x16.2.2.2.1
def P.b6p (k:Nat) (x:List (List ByteArray)×Bool×Unit):l_toStringSSo.B:=
 if x.2.1 then if(x.1.length:Int)==(0:Int)then some ((([]:List (List ByteArray×Nat)),0),())else(S.a1x ((x.1.length:Int),())).bind fun y0=>if decide ((0:Int)≤(IntKind.wrap .i64 ((x.1.length:Int)+y0.1)))then if decide ((IntKind.wrap .i64 ((x.1.length:Int)+y0.1))≤(IntKind.wrap .i64 ((x.1.length:Int)+y0.1)))then if decide (((IntKind.wrap .i64 ((x.1.length:Int)+y0.1))*(24:Int))≤(281474976710656:Int))then if dup (List.map (fun(y1:Nat×Nat)=>y1.1) (hd0 (List.replicate (Int.toNat (IntKind.wrap .i64 ((x.1.length:Int)+y0.1))) (([]:List ByteArray),0))))then none else loopP (P.a4g k) k ((0:Int),x.1,nrm (hd0 (List.replicate (Int.toNat (IntKind.wrap .i64 ((x.1.length:Int)+y0.1))) (([]:List ByteArray),0))) (in0 (List.replicate (Int.toNat (IntKind.wrap .i64 ((x.1.length:Int)+y0.1))) (([]:List ByteArray),0))),x.2.1,())else none else none else none else(S.a1x ((x.1.length:Int),())).bind fun y13=>if decide ((0:Int)≤(IntKind.wrap .i64 ((x.1.length:Int)+y13.1)))then if decide ((IntKind.wrap .i64 ((x.1.length:Int)+y13.1))≤(IntKind.wrap .i64 ((x.1.length:Int)+y13.1)))then if decide (((IntKind.wrap .i64 ((x.1.length:Int)+y13.1))*(24:Int))≤(281474976710656:Int))then if dup (List.map (fun(y14:Nat×Nat)=>y14.1) (hd0 (List.replicate (Int.toNat (IntKind.wrap .i64 ((x.1.length:Int)+y13.1))) (([]:List ByteArray),0))))then none else loopP (P.b5t k) k ((0:Int),x.1,nrm (hd0 (List.replicate (Int.toNat (IntKind.wrap .i64 ((x.1.length:Int)+y13.1))) (([]:List ByteArray),0))) (in0 (List.replicate (Int.toNat (IntKind.wrap .i64 ((x.1.length:Int)+y13.1))) (([]:List ByteArray),0))),x.2.1,())else none else none else none
def S.a8z (x:((List (List ByteArray))×(Bool×Unit))):(Option (((List ((List ByteArray)×Nat))×Nat)×Unit)):=S.b9i x
theorem toStringSSo_b8 (xs:List (List ByteArray)) (ys:List (List ByteArray×Nat)) (m n k:Nat) (h:n=xs.length) (hy:ys.length=n) (hl:n≤1000000) (hm:m≤n+1) (hk:m<k):
  loopP P.a4f k ((n:Int),ys++List.replicate m ([],0),xs,())=some ((ys++List.replicate m b5f,n),()):=by
 have key:=a0h (b:=P.a4f) (n:=m) (st:=fun i=>(((n+i:Nat):Int),(ys++List.replicate i b5f)++List.replicate (m - i) ([],0),xs,())) (F:=fun i=>some ((ys++List.replicate m b5f,n),())) (fun i g hi hg=>by
  unfold P.a4f;dsimp only at hg ⊢;have hlen:((ys++List.replicate i b5f)++List.replicate (m - i) ([],0)).length=n+m:=by simp;omega
  have e1:((n+i:Nat):Int)<((n+m:Nat):Int):=by omega
  have e2:(0:Int)≤((n+i:Nat):Int):=by omega
  simp only[a0q,hlen,d1x,nrm_store,e1,e2,decide_true,if_true,Bool.false_eq_true,if_false];rw[wr (by omega) (by omega),←hg];congr 1;have e3:m - i=(m - (i+1))+1:=by omega
  have e4:(0+((n+i:Nat):Int).toNat)=(ys++List.replicate i b5f).length:=by rw[List.length_append,List.length_replicate];omega
  rw[e3,e4,c2n];simp only[List.replicate_succ',←List.append_assoc,b5f,a4d];rfl) (fun g=>by
  unfold P.a4f;dsimp only;have hlen:((ys++List.replicate m b5f)++List.replicate (m - m) ([],0)).length=n+m:=by simp;omega
  have e1:¬((n+m:Nat):Int)<((n+m:Nat):Int):=by omega
  have e2:(0:Int)≤(xs.length:Int):=by omega
  have e3:(xs.length:Int)+0≤((n+m:Nat):Int):=by omega
  simp only[a0q,hlen,a1p,a1z,e1,e2,e3,decide_true,decide_false,if_true,Bool.false_eq_true,if_false];simp [h]) hk
 simpa using key
theorem toStringSSo_b2 (k0:Nat) (bare:Bool) (xs:List (List ByteArray)) (m k:Nat) (hl:okRS xs) (hm:m≤xs.length+1) (hk0:m<k0) (hk:xs.length<k):
  loopP (P.a4g k0) k ((0:Int),xs,List.replicate (xs.length+m) ([],0),bare,())=some ((xs.map (tos a4d bare)++List.replicate m b5f,xs.length),()):=by
 obtain⟨hl,hr⟩:=hl;have key:=a0h (b:=P.a4g k0) (n:=xs.length) (st:=fun i=>((i:Int),xs,(xs.take i).map (tos a4d bare)++List.replicate (xs.length - i+m) ([],0),bare,())) (F:=fun i=>some ((xs.map (tos a4d bare)++List.replicate m b5f,xs.length),())) (fun i g hi hg=>by
  unfold P.a4g;dsimp only at hg ⊢;have hlen:((xs.take i).map (tos a4d bare)++List.replicate (xs.length - i+m) ([],0)).length=xs.length+m:=by simp;omega
  have e1:(i:Int)<(xs.length:Int):=by omega
  have e1':(i:Int)<((xs.length+m:Nat):Int):=by omega
  have e2:(0:Int)≤(i:Int):=by omega
  have es:S.a6b (xs[i],bare,())=some (tos a4d bare xs[i],()):=by simp [S.a6b,S.c1r,hr xs[i] (List.getElem_mem hi)]
  simp only[a0q,hlen,e1,e1',e2,decide_true,if_true];rw[wr (by omega) (by omega),a0o xs i _ hi,es,Option.bind_some];simp only[d1x,nrm_store,Bool.false_eq_true,if_false];rw[←hg];congr 1;have e3:xs.length - i+m=(xs.length - (i+1)+m)+1:=by omega
  have e4:(0+(i:Int).toNat)=((xs.take i).map (tos a4d bare)).length:=by simp;omega
  rw[e3,e4,c2n];have e5:(xs.take (i+1)).map (tos a4d bare)=(xs.take i).map (tos a4d bare)++[tos a4d bare xs[i]]:=by rw[←List.take_append_getElem hi,List.map_append];rfl
  rw[e5];rfl) (fun g=>by
  unfold P.a4g;dsimp only;have e1:¬(xs.length:Int)<(xs.length:Int):=by omega
  simp only[e1,decide_false,a1p,a1z,Bool.false_eq_true,if_false];have:=toStringSSo_b8 xs (xs.map (tos a4d bare)) m xs.length k0 rfl (by simp) hl hm hk0;simpa using this) hk
 simpa using key
theorem S.c7c (x r) (h:S.a8z x=some r):∃k,P.b6p k x=some r:=by
 obtain⟨xs,bare,u⟩:=x;unfold S.a8z S.b9i at h;dsimp only at h;split at h
 case isFalse=>cases h
 rename_i hl;have hl1:=hl.1;cases h;refine⟨xs.length+2,?_⟩;have hr:=rb_le xs.length;have e0:S.a1x ((xs.length:Int),())=some (rb xs.length,()):=by
  unfold S.a1x P.a8f rb;simp only[beq_iff_eq];split
  ·rfl
  ·split<;>rfl
 have e1:(0:Int)≤(xs.length:Int)+rb xs.length:=by omega
 have e3:((xs.length:Int)+rb xs.length)*24≤281474976710656:=by omega
 have e4:((xs.length:Int)+rb xs.length).toNat=xs.length+(rb xs.length).toNat:=by omega
 have hb:P.b5t=P.a4g:=rfl;have key:=fun b=>toStringSSo_b2 (xs.length+2) b xs (rb xs.length).toNat (xs.length+2) hl (by omega) (by omega) (by omega)
 unfold P.b6p c8r;dsimp only;rw[e0,hb];simp only[Option.bind_some];rw[wr (by omega) (by omega)];simp only[e1,e3,e4,Int.le_refl,decide_true,if_true,a1p,a1z,key,Bool.false_eq_true,if_false];cases bare with
 |true=>
  simp only[if_true]
  by_cases hx:xs=[]
  ·subst hx;rfl
  ·have hx':¬((((xs.length:Nat):Int)==0)=true):=by
    simp [hx]
   rw[if_neg hx',if_neg (by simp [hx])]
 |false=>
  simp only[Bool.false_eq_true,if_false,false_and]
def P.b9t (k:Nat) (x:List (List ByteArray)×Bool×Unit):Option ((List (List ByteArray×Nat)×Nat)×Unit):=
 (S.a8z (x.1,x.2.1,())).bind fun y0=>if dup (List.map (fun(y1:Nat×Nat)=>y1.1) (hd0 y0.1.1))then none else some ((nrm (hd0 y0.1.1) (in0 y0.1.1),y0.1.2),())
def S.a8g (x:((List (List ByteArray))×(Bool×Unit))):(Option (((List ((List ByteArray)×Nat))×Nat)×Unit)):=P.b9t 0 x
theorem S.l_toChaino_ok (x r) (h:S.a8g x=some r):∃k,P.b9t k x=some r:=⟨0,h⟩
abbrev P.a7x (x1:List Int×Int×Int×Unit) (g2:List Int×Int×Int×Unit→Option (ByteArray×Unit)):Option (ByteArray×Unit):=
 (fun(a:List Int) (b c:Int)=>if(a.length:Int)==(0:Int)then if decide ((Int.tmod b (10:Int))<(0:Int))then if decide ((((List.length [IntKind.wrap .u8 (IntKind.wrap .i64 ((48:Int)+(IntKind.wrap .i64 ((0:Int) - (Int.tmod b (10:Int))))))])+a.length)*(1:Nat))≤(140737488355328:Nat))then g2 ([IntKind.wrap .u8 (IntKind.wrap .i64 ((48:Int)+(IntKind.wrap .i64 ((0:Int) - (Int.tmod b (10:Int))))))]++a,IntKind.wrap .i64 (Int.tdiv b (10:Int)),c,())else none else if decide ((((List.length [IntKind.wrap .u8 (IntKind.wrap .i64 ((48:Int)+(Int.tmod b (10:Int))))])+a.length)*(1:Nat))≤(140737488355328:Nat))then g2 ([IntKind.wrap .u8 (IntKind.wrap .i64 ((48:Int)+(Int.tmod b (10:Int))))]++a,IntKind.wrap .i64 (Int.tdiv b (10:Int)),c,())else none else if b != (0:Int)then if decide ((Int.tmod b (10:Int))<(0:Int))then if decide ((((List.length [IntKind.wrap .u8 (IntKind.wrap .i64 ((48:Int)+(IntKind.wrap .i64 ((0:Int) - (Int.tmod b (10:Int))))))])+a.length)*(1:Nat))≤(140737488355328:Nat))then g2 ([IntKind.wrap .u8 (IntKind.wrap .i64 ((48:Int)+(IntKind.wrap .i64 ((0:Int) - (Int.tmod b (10:Int))))))]++a,IntKind.wrap .i64 (Int.tdiv b (10:Int)),c,())else none else if decide ((((List.length [IntKind.wrap .u8 (IntKind.wrap .i64 ((48:Int)+(Int.tmod b (10:Int))))])+a.length)*(1:Nat))≤(140737488355328:Nat))then g2 ([IntKind.wrap .u8 (IntKind.wrap .i64 ((48:Int)+(Int.tmod b (10:Int))))]++a,IntKind.wrap .i64 (Int.tdiv b (10:Int)),c,())else none else if decide (c<(0:Int))then if decide ((((1:Nat)+a.length)*(1:Nat))≤(140737488355328:Nat))then some (b8r ([(45:Int)]++a),())else none else some (b8r a,())) x1.1 x1.2.1 x1.2.2.1
def P.s_l01Dec (k:Nat) (x:Int×Unit):Option (ByteArray×Unit):=
 loopP P.a7x k (([]:List Int),x.1,x.1,())
def digI (u:Nat):List Int:=(Go.Lib.decDigits u).map fun b=>(b.toNat:Int)
theorem digI_small {u:Nat} (h:u<10):digI u=[48+(u:Int)]:=by
 unfold digI;rw[Go.Lib.decDigits,dif_pos h];simp only[List.map_cons,List.map_nil,List.cons.injEq,and_true];rw[UInt8.toNat_ofNat'];omega
theorem digI_step {u:Nat} (h:¬u<10):digI u=digI (u/10)++[48+((u%10:Nat):Int)]:=by
 unfold digI;rw[Go.Lib.decDigits,dif_neg h,List.map_append];simp only[List.map_cons,List.map_nil];rw[UInt8.toNat_ofNat'];congr 2;omega
theorem strOf_map (l:List UInt8):b8r (l.map fun b=>(b.toNat:Int))=⟨l.toArray⟩:=by
 unfold b8r;rw[List.map_map];have:((fun n:Int=>UInt8.ofNat n.toNat) ∘ fun b:UInt8=>(b.toNat:Int))=id:=by
  funext b;simp
 rw[this,List.map_id]
theorem wr8 {x:Int} (h0:0≤x) (h1:x≤255):IntKind.wrap .u8 x=x:=by
 show x%256=x;omega
def sgn (neg:Bool) (u:Nat):Int:=if neg=true then -(u:Int)else(u:Int)
theorem sgn_tmod (neg:Bool) (u:Nat):Int.tmod (sgn neg u) 10=sgn neg (u%10):=by
 cases neg
 ·show Int.tmod (u:Int) 10=((u%10:Nat):Int)
  rw[Int.tmod_eq_emod_of_nonneg (by omega)];omega
 ·show Int.tmod (-(u:Int)) 10= -((u%10:Nat):Int);rw[Int.neg_tmod,Int.tmod_eq_emod_of_nonneg (by omega)];omega
theorem sgn_tdiv (neg:Bool) (u:Nat):Int.tdiv (sgn neg u) 10=sgn neg (u/10):=by
 cases neg
 ·show Int.tdiv (u:Int) 10=((u/10:Nat):Int)
  rw[Int.tdiv_eq_ediv_of_nonneg (by omega)];omega
 ·show Int.tdiv (-(u:Int)) 10= -((u/10:Nat):Int);rw[Int.neg_tdiv,Int.tdiv_eq_ediv_of_nonneg (by omega)];omega
theorem dec_round (neg:Bool) (u:Nat) (n:Int) (out:List Int) (g:((List Int)×(Int×(Int×Unit)))→Option (ByteArray×Unit)) (hu:u≤9223372036854775808) (hs:neg=false→u≤9223372036854775807) (ho:out.length≤1000) (hc:out=[]∨u≠0):
  P.a7x (out,sgn neg u,n,()) g=g ((48+((u%10:Nat):Int))::out,sgn neg (u/10),n,()):=by
 have hw:IntKind.wrap .i64 (sgn neg (u/10))=sgn neg (u/10):=by
  apply wr<;>unfold sgn<;>split<;>omega
 have hA:∀(a b:Option (ByteArray×Unit)),(if((decide (sgn neg (u%10)<(0:Int)))=true)then a else b)=(if(sgn neg (u%10)<0)then a else b):=by
  intro a b
  by_cases h:sgn neg (u%10)<0<;>simp [h]
 have hneg:sgn neg (u%10)<0→IntKind.wrap .i64 ((0:Int) - sgn neg (u%10))=((u%10:Nat):Int):=by
  intro h;unfold sgn at h ⊢;split at h
  ·rename_i hn;rw[if_pos hn,wr (by omega) (by omega)];omega
  ·omega
 have hpos:¬sgn neg (u%10)<0→sgn neg (u%10)=((u%10:Nat):Int):=by
  intro h;unfold sgn at h ⊢;split at h
  ·rename_i hn;rw[if_pos hn];omega
  ·rename_i hn;rw[if_neg hn]
 have hch:IntKind.wrap .u8 (IntKind.wrap .i64 ((48:Int)+((u%10:Nat):Int)))=48+((u%10:Nat):Int):=by
  rw[wr (by omega) (by omega),wr8 (by omega) (by omega)]
 have hlen:∀c:Int,((List.length (c::([]:List Int))+List.length out)*1≤140737488355328):=by
  intro c;simp;omega
 unfold P.a7x;dsimp only;have hu0:u≠0→sgn neg u≠0:=by
  intro h;unfold sgn;split<;>omega
 simp only[hA,sgn_tmod,sgn_tdiv,hw];have hin:∀X Y:Option (ByteArray×Unit),(sgn neg (u%10)<0→X=g ((48+((u%10:Nat):Int))::out,sgn neg (u/10),n,()))→(¬sgn neg (u%10)<0→Y=g ((48+((u%10:Nat):Int))::out,sgn neg (u/10),n,()))→
   (if sgn neg (u%10)<0 then X else Y)=g ((48+((u%10:Nat):Int))::out,sgn neg (u/10),n,()):=by
  intro X Y h1 h2;split
  ·exact h1 (by assumption)
  ·exact h2 (by assumption)
 have key:(if sgn neg (u%10)<0 then(if((decide (((List.length ((IntKind.wrap .u8 (IntKind.wrap .i64 ((48:Int)+(IntKind.wrap .i64 ((0:Int) - sgn neg (u%10))))))::([]:List Int))+(List.length out))*(1:Nat))≤(140737488355328:Nat)))=true)then(g ((((IntKind.wrap .u8 (IntKind.wrap .i64 ((48:Int)+(IntKind.wrap .i64 ((0:Int) - sgn neg (u%10))))))::([]:List Int))++out),(sgn neg (u/10),(n,()))))else none)
   else(if((decide (((List.length ((IntKind.wrap .u8 (IntKind.wrap .i64 ((48:Int)+sgn neg (u%10))))::([]:List Int))+(List.length out))*(1:Nat))≤(140737488355328:Nat)))=true)then(g ((((IntKind.wrap .u8 (IntKind.wrap .i64 ((48:Int)+sgn neg (u%10))))::([]:List Int))++out),(sgn neg (u/10),(n,()))))else none))=g ((48+((u%10:Nat):Int))::out,sgn neg (u/10),n,()):=by
  refine hin _ _ (fun h=> ?_) (fun h=> ?_)
  ·rw[if_pos (decide_eq_true (hlen _)),hneg h,hch];rfl
  ·rw[if_pos (decide_eq_true (hlen _)),hpos h,hch];rfl
 rcases hc with rfl|hc
 ·rw[if_pos (by rfl)];exact key
 ·by_cases ho':(((List.length out):Int)==(0:Int))=true
  ·rw[if_pos ho'];exact key
  ·rw[if_neg ho',if_pos (by simpa using hu0 hc)];exact key
theorem dec_end (neg:Bool) (n:Int) (out:List Int) (g:((List Int)×(Int×(Int×Unit)))→Option (ByteArray×Unit)) (ho:out.length≤1000) (hc:out≠ []):
  P.a7x (out,sgn neg 0,n,()) g=some (b8r (if n<0 then 45::out else out),()):=by
 unfold P.a7x;dsimp only;have h0:sgn neg 0=0:=by cases neg<;>rfl
 rw[if_neg (by simpa using hc),h0,if_neg (by decide)]
 by_cases hn:n<0
 ·rw[if_pos (decide_eq_true hn),if_pos (decide_eq_true (by omega)),if_pos hn];rfl
 ·rw[if_neg (by simpa using hn),if_neg hn]
theorem dec_loop (neg:Bool) (n:Int):∀(u:Nat) (out:List Int) (k:Nat),u≠0→u≤9223372036854775808→(neg=false→u≤9223372036854775807)→out.length+u.log2≤900→u.log2+2≤k→
  loopP P.a7x k (out,sgn neg u,n,())=some (b8r (if n<0 then 45::(digI u++out)else digI u++out),()):=by
 intro u
 induction u using Nat.strongRecOn with
 |ind u ih=>
  intro out k h0 hu hs ho hk;obtain⟨k,rfl⟩:∃j,k=j+1:=⟨k - 1,by omega⟩
  rw[a0k,dec_round neg u n out _ hu hs (by omega) (.inr h0)]
  by_cases h:u<10
  ·have e:u/10=0:=by omega
   obtain⟨k,rfl⟩:∃j,k=j+1:=⟨k - 1,by omega⟩
   rw[e,a0k,dec_end neg n _ _ (by simp;omega) (by simp),digI_small h,Nat.mod_eq_of_lt h];rfl
  ·have hl:(u/10).log2+1≤u.log2:=by
    have h2:u/10≠0:=by omega
    have a1:2^(u/10).log2≤u/10:=Nat.log2_self_le h2;have a2:2^((u/10).log2+1)≤u:=by rw[Nat.pow_succ];omega
    exact(Nat.le_log2 h0).2 a2
   rw[ih (u/10) (by omega) _ k (by omega) (by omega) (fun hn=>by have:=hs hn;omega) (by simp;omega) (by omega),digI_step h];simp
def S.b6q (x:(Int×Unit)):(Option (ByteArray×Unit)):=if -9223372036854775808≤x.1∧x.1≤9223372036854775807 then some (⟨(Go.Lib.itoa x.1).toArray⟩,())else none
theorem S.s_l01Dec_ok (x r) (h:S.b6q x=some r):∃k,P.s_l01Dec k x=some r:=by
 obtain⟨n,u⟩:=x;unfold S.b6q at h;dsimp only at h;split at h
 case isFalse=>cases h
 rename_i hn;cases h;refine⟨200,?_⟩;unfold P.s_l01Dec;dsimp only;have hsg:∃neg,n=sgn neg n.natAbs∧(neg=true↔n<0):=by
  by_cases h:n<0
  ·exact⟨true,by unfold sgn;simp;omega,by simp [h]⟩
  ·exact⟨false,by unfold sgn;simp;omega,by simp [h]⟩
 obtain⟨neg,h1,h2⟩:=hsg;have hfin:b8r (if n<0 then 45::digI n.natAbs else digI n.natAbs)=⟨(Go.Lib.itoa n).toArray⟩:=by
  unfold Go.Lib.itoa digI;split
  ·rw[←strOf_map];rfl
  ·rw[←strOf_map];have:n.natAbs=n.toNat:=by omega
   rw[this]
 by_cases h0:n.natAbs=0
 ·have hn0:n=0:=by omega
  subst hn0;have e0:(0:Int)=sgn false 0:=rfl;show loopP P.a7x (198+1+1) ([],0,0,())=_;rw[a0k]
  conv=>lhs;rw[show(([]:List Int),(0:Int),(0:Int),())=([],sgn false 0,0,())from rfl]
  rw[dec_round false 0 0 [] _ (by omega) (by omega) (by simp) (.inl rfl),a0k,show 0/10=0 from rfl,dec_end false 0 _ _ (by simp) (by simp),←hfin];rw[show(0:Int).natAbs=0 from rfl,digI_small (by omega)]
 ·have hb:n.natAbs≤9223372036854775808:=by omega
  have hl:n.natAbs.log2≤64:=by
   have:n.natAbs.log2<65:=(Nat.log2_lt h0).2 (by omega);omega
  have:=dec_loop neg n n.natAbs [] 200 h0 hb (fun hf=>by
   have:¬n<0:=fun h=>by rw[h2.2 h]at hf;cases hf
   omega) (by simp;omega) (by omega)
  rw[←h1]at this;rw[this,List.append_nil,hfin]
abbrev P.a9a (x2:Int×List Int×ByteArray×Unit) (g3:Int×List Int×ByteArray×Unit→Option (ByteArray×Unit)):Option (ByteArray×Unit):=
 if decide (x2.1≥(0:Int))then if decide ((0:Int)≤x2.1)then if decide (x2.1<(x2.2.1.length:Int))then(S.b6q (IntKind.wrap .i64 ((x2.2.1.getD x2.1.toNat (0:Int))+(1000000000:Int)),())).bind fun y4=>if decide ((0:Int)≤(y4.1.size:Int))then if decide ((y4.1.size:Int)≤(y4.1.size:Int))then if decide ((1:Int)≤(y4.1.size:Int))then if decide ((x2.2.2.1.size+(ByteArray.size (ByteArray.extract y4.1 (1:Nat) (Int.toNat (y4.1.size:Int)))))≤(9223372036854775807:Nat))then g3 (IntKind.wrap .i64 (x2.1 - (1:Int)),x2.2.1,x2.2.2.1++(ByteArray.extract y4.1 (1:Nat) (Int.toNat (y4.1.size:Int))),())else none else none else none else none else none else none else some (x2.2.2.1,())
def P.b8i (k:Nat) (x:List Int×Unit):Option (ByteArray×Unit):=
 if(x.1.length:Int)==(0:Int)then some (bs [48],())else if decide ((0:Int)≤(IntKind.wrap .i64 ((x.1.length:Int) - (1:Int))))then if decide ((IntKind.wrap .i64 ((x.1.length:Int) - (1:Int)))<(x.1.length:Int))then(S.b6q (x.1.getD (Int.toNat (IntKind.wrap .i64 ((x.1.length:Int) - (1:Int)))) (0:Int),())).bind fun y0=>loopP P.a9a k (IntKind.wrap .i64 ((x.1.length:Int) - (2:Int)),x.1,y0.1,())else none else none
def S.a3r (x:((List Int)×Unit)):(Option (ByteArray×Unit)):=if a2s B10 x.1=true∧x.1.length≤40000000 then some (⟨(Go.Lib.decDigits (a0b B10 x.1)).toArray⟩,())else none
theorem S.c9e (x r) (h:S.a3r x=some r):∃k,P.b8i k x=some r:=by
 obtain⟨xs,u⟩:=x;unfold S.a3r at h;dsimp only at h;split at h
 case isFalse=>cases h
 rename_i hc;obtain⟨ca,la⟩:=hc;cases h;refine⟨xs.length+1,?_⟩;unfold P.b8i;dsimp only
 by_cases he:xs=[]
 ·subst he;rw[if_pos (by rfl),show a0b B10 []=0 from rfl,a7i (by decide)];rfl
 ·have hpos:0<xs.length:=List.length_pos_iff.2 he;obtain⟨m,hm⟩:∃m,xs.length=m+1:=⟨xs.length - 1,by omega⟩
  have dx:=a1o ca;have h0:a0b B10 xs≠0:=by
   intro q;have:=a1b ca;rw[q,a1s a0d]at this;exact he this.symm
  have hdec:∀z:Int,0≤z→z≤2000000000→S.b6q (z,())=some (⟨(Go.Lib.decDigits z.toNat).toArray⟩,()):=by
   intro z z0 z1;unfold S.b6q;dsimp only;rw[if_pos ⟨by omega,by omega⟩];unfold Go.Lib.itoa;rw[if_neg (by omega)]
  have hnz:∀i,i≤m→a0b B10 (xs.drop i)≠0:=by
   intro i hi q;have h1:=a0w (B:=B10) (xs.take i) (xs.drop i);rw[List.take_append_drop,q,Nat.mul_zero,Nat.add_zero]at h1;have h2:=a1l (dig_take dx i);have h3:(xs.take i).length=i:=by simp;omega
   rw[h3]at h2;have h4:=nd_low a0d h0;rw[a1b ca,hm,Nat.add_sub_cancel]at h4;have h5:B10^i≤B10^m:=Nat.pow_le_pow_right (by decide) hi;omega
  have hlenD:∀i,(Go.Lib.decDigits (a0b B10 (xs.drop i))).length≤9*xs.length:=by
   intro i;have h1:=a1l (dig_drop dx i);have h2:B10^(xs.drop i).length≤B10^xs.length:=Nat.pow_le_pow_right (by decide) (by simp);rw[show B10=10^9 by decide,←Nat.pow_mul,←Nat.pow_mul]at h2;rw[show B10^(xs.drop i).length=10^(9*(xs.drop i).length) by rw[show B10=10^9 by decide,←Nat.pow_mul]]at h1;exact dec_len (by omega) (by omega)
  have c1:(0:Int)≤(m:Int):=by omega
  have c2:(m:Int)<((m+1:Nat):Int):=by omega
  rw[if_neg (by simp;exact he),hm,wr (x:=((m+1:Nat):Int) - 1) (by omega) (by omega),wr (x:=((m+1:Nat):Int) - 2) (by omega) (by omega),show((m+1:Nat):Int) - 1=(m:Int) by omega,if_pos (decide_eq_true c1),if_pos (decide_eq_true c2),Int.toNat_natCast];have gx:=a0z (B:=B10) (by decide) dx m;have gx1:xs.getD m 0<1000000000:=gx.2;rw[hdec _ gx.1 (by omega),Option.bind_some];have hlast:(xs.getD m 0).toNat=a0b B10 (xs.drop m):=by
   rw[d1k (by omega),List.drop_of_length_le (by omega)];simp [a0b]
  rw[hlast];have key:=a0h (k:=m+1+1) (b:=P.a9a) (n:=m) (st:=fun i=>((m:Int) - 1 - (i:Int),xs,(⟨(Go.Lib.decDigits (a0b B10 (xs.drop (m - i)))).toArray⟩:ByteArray),())) (F:=fun i=>some (⟨(Go.Lib.decDigits (a0b B10 xs)).toArray⟩,())) (fun i g hi hg=>by
   unfold P.a9a;dsimp only at hg ⊢;obtain⟨j,hj⟩:∃j,m - i=j+1:=⟨m - i - 1,by omega⟩
   rw[show m - (i+1)=j by omega,show(m:Int) - 1 - ((i+1:Nat):Int)=(j:Int) - 1 by omega]at hg;rw[hj,show(m:Int) - 1 - (i:Int)=(j:Int) by omega];have d1:(j:Int)≥0:=by omega
   have d2:(0:Int)≤(j:Int):=by omega
   have d3:(j:Int)<(xs.length:Int):=by omega
   have gx:=a0z (B:=B10) (by decide) dx j;have gx1:xs.getD j 0<1000000000:=gx.2;have gx0:=gx.1;rw[if_pos (decide_eq_true d1),if_pos (decide_eq_true d2),if_pos (decide_eq_true d3),Int.toNat_natCast,wr (x:=xs.getD j 0+1000000000) (by omega) (by omega),hdec _ (by omega) (by omega),Option.bind_some];dsimp only;obtain⟨z,hz⟩:∃z:Nat,xs.getD j 0=(z:Int):=⟨(xs.getD j 0).toNat,by omega⟩
   have hzl:z<10^9:=by rw[show(10:Nat)^9=1000000000 by decide];omega
   have e1:=nine_all z (xs.getD j 0) hz hzl;rw[e1];have hs:(⟨(49::a5v 9 z).toArray⟩:ByteArray).size=10:=by rw[c4z,List.length_cons,c5a]
   have hx:ByteArray.extract ⟨(49::a5v 9 z).toArray⟩ 1 10=⟨(a5v 9 z).toArray⟩:=by
    apply ByteArray.ext;rw[ByteArray.data_extract];have hl:(a5v 9 z).length=9:=c5a _ _;simp [List.extract_toArray,List.take_of_length_le,hl]
   rw[hs];have f1:(0:Int)≤((10:Nat):Int):=by decide
   have f2:(1:Int)≤((10:Nat):Int):=by decide
   rw[if_pos (decide_eq_true f1),if_pos (decide_eq_true (Int.le_refl _)),if_pos (decide_eq_true f2),show(((10:Nat):Int)).toNat=10 from rfl,hx];have hl1:=hlenD (j+1);have f3:(⟨(Go.Lib.decDigits (a0b B10 (xs.drop (j+1)))).toArray⟩:ByteArray).size+(⟨(a5v 9 z).toArray⟩:ByteArray).size≤9223372036854775807:=by
    rw[c4z,c4z,c5a];omega
   rw[if_pos (decide_eq_true f3),c0s,wr (x:=(j:Int) - 1) (by omega) (by omega)];have e2:Go.Lib.decDigits (a0b B10 (xs.drop (j+1)))++a5v 9 z=Go.Lib.decDigits (a0b B10 (xs.drop j)):=by
    rw[d1k (xs:=xs) (i:=j) (by omega),hz,Int.toNat_natCast];generalize hD:a0b B10 (xs.drop (j+1))=D;have hD0:0<D:=by rw[←hD];exact Nat.pos_of_ne_zero (hnz (j+1) (by omega))
    have e3:z+B10*D=D*10^9+z:=by rw[Nat.add_comm,Nat.mul_comm]
    rw[e3,d1n 9 D z hD0 hzl]
   rw[e2];exact hg) (fun g=>by
   unfold P.a9a;dsimp only;rw[if_neg (by simp;omega),Nat.sub_self,List.drop_zero]) (by omega)
  rw[Nat.sub_zero,show(m:Int) - 1 - ((0:Nat):Int)=((m+1:Nat):Int) - 2 by omega]at key;exact key
def P.c2b (k:Nat) (x:RB×Unit):Option (Bool×Unit):=
 (S.a3r (x.1.2.1,())).bind fun y0=>if decide ((y0.1.size:Int)≤(200:Int))then(S.a3r (x.1.2.2,())).bind fun y1=>some (decide ((y1.1.size:Int)≤(200:Int)),())else some (false,())
def S.c2c (x:(RB×Unit)):(Option (Bool×Unit)):=P.c2b 0 x
theorem S.s_l01Fits_ok (x r) (h:S.c2c x=some r):∃k,P.c2b k x=some r:=⟨0,h⟩
abbrev P.b6r (x1:Int×List Int×List Int×Unit) (g2:Int×List Int×List Int×Unit→Option (Int×Unit)):Option (Int×Unit):=
 (fun(a:Int) (b c:List Int)=>if decide (a≥(0:Int))then if decide ((0:Int)≤a)then if decide (a<(b.length:Int))then if decide ((0:Int)≤a)then if decide (a<(c.length:Int))then if(b.getD a.toNat (0:Int)) != (c.getD a.toNat (0:Int))then if decide ((0:Int)≤a)then if decide (a<(b.length:Int))then if decide ((0:Int)≤a)then if decide (a<(c.length:Int))then if decide ((b.getD a.toNat (0:Int))<(c.getD a.toNat (0:Int)))then some ((-1:Int),())else some ((1:Int),())else none else none else none else none else g2 (IntKind.wrap .i64 (a - (1:Int)),b,c,())else none else none else none else none else some ((0:Int),())) x1.1 x1.2.1 x1.2.2.1
def P.s_l01Cmp (k:Nat) (x:List Int×List Int×Unit):Option (Int×Unit):=
 if(x.1.length:Int) != (x.2.1.length:Int)then if decide ((x.1.length:Int)<(x.2.1.length:Int))then some ((-1:Int),())else some ((1:Int),())else loopP P.b6r k (IntKind.wrap .i64 ((x.1.length:Int) - (1:Int)),x.1,x.2.1,())
def S.a0n (x:((List Int)×((List Int)×Unit))):(Option (Int×Unit)):=if a2s B10 x.1=true∧a2s B10 x.2.1=true∧x.1.length≤1000000000000 then some (b0q (a0b B10 x.1) (a0b B10 x.2.1),())else none
theorem S.s_l01Cmp_ok (x r) (h:S.a0n x=some r):∃k,P.s_l01Cmp k x=some r:=by
 obtain⟨xs,ys,u⟩:=x;unfold S.a0n at h;dsimp only at h;split at h
 case isFalse=>cases h
 rename_i hc;obtain⟨cx,cy,hl⟩:=hc;cases h;refine⟨xs.length+1,?_⟩;unfold P.s_l01Cmp;dsimp only
 by_cases hn:xs.length=ys.length
 ·rw[if_neg (by simp [hn]),wr (by omega) (by omega)];have key:=a0h (k:=xs.length+1) (b:=P.b6r) (n:=xs.length) (st:=fun j=>((xs.length:Int) - 1 - (j:Int),xs,ys,())) (F:=fun j=>some (b0q (a0b B10 (xs.take (xs.length - j))) (a0b B10 (ys.take (xs.length - j))),())) (fun j g hj hg=>by
   unfold P.b6r;dsimp only at hg ⊢;have e1:(xs.length:Int) - 1 - (j:Int)≥0:=by omega
   have e3:(0:Int)≤(xs.length:Int) - 1 - (j:Int):=by omega
   have e4:(xs.length:Int) - 1 - (j:Int)<(xs.length:Int):=by omega
   have e4':(xs.length:Int) - 1 - (j:Int)<(ys.length:Int):=by omega
   simp only[e1,e4,e4',decide_true,if_true];have hi:xs.length - (j+1)<xs.length:=by omega
   have hi':xs.length - (j+1)<ys.length:=by omega
   have e5:(xs.length:Int) - 1 - (j:Int)=((xs.length - (j+1):Nat):Int):=by omega
   have e6:xs.length - j=(xs.length - (j+1))+1:=by omega
   rw[e5,a0o xs _ _ hi,a0o ys _ _ hi',e6];generalize xs.length - (j+1)=i at*
   by_cases hq:xs[i]=ys[i]
   ·rw[if_neg (by simp [hq]),wr (by omega) (by omega)];have e7:((i:Nat):Int) - 1=(xs.length:Int) - 1 - ((j+1:Nat):Int):=by omega
    rw[e7,hg,←List.take_append_getElem hi,←List.take_append_getElem hi',a0w,a0w,hq];have hlx:(xs.take i).length=i:=by simp;omega
    have hly:(ys.take i).length=i:=by simp;omega
    rw[hlx,hly];unfold b0q;simp only[Nat.add_lt_add_iff_right]
   ·rw[if_pos (by simp [hq])]
    by_cases hlt:xs[i]<ys[i]
    ·have:=c8j xs ys i hi hi' (a1o cx) (a1o cy) hlt;rw[if_pos (decide_eq_true hlt),b0q,if_pos this]
    ·have:=c8j ys xs i hi' hi (a1o cy) (a1o cx) (by omega);rw[if_neg (by simpa using hlt),b0q,if_neg (by omega),if_pos this]) (fun g=>by
   unfold P.b6r;dsimp only;rw[if_neg (by simp;omega),Nat.sub_self,List.take_zero,List.take_zero];rfl) (by omega)
  rw[show(xs.length:Int) - 1 - ((0:Nat):Int)=(xs.length:Int) - 1 by omega,Nat.sub_zero,List.take_length,List.take_of_length_le (by omega)]at key;exact key
 ·rw[if_pos (by simp;omega)]
  by_cases hlt:xs.length<ys.length
  ·rw[if_pos (decide_eq_true (by omega)),b0q,if_pos (b0r a0d cx cy hlt)]
  ·have:=b0r a0d cy cx (by omega);rw[if_neg (by simp;omega),b0q,if_neg (by omega),if_pos this]
def P.c2d (k:Nat) (x:RB×Unit):Option (ByteArray×Unit):=
 (S.a3r (x.1.2.1,())).bind fun y0=>if x.1.1 then if decide (((1:Nat)+y0.1.size)≤(9223372036854775807:Nat))then(S.a0n (x.1.2.2,[(1:Int)],())).bind fun y1=>if y1.1 != (0:Int)then(S.a3r (x.1.2.2,())).bind fun y2=>if decide (((1:Nat)+y2.1.size)≤(9223372036854775807:Nat))then if decide (((ByteArray.size ((bs [45])++y0.1))+(ByteArray.size ((bs [47])++y2.1)))≤(9223372036854775807:Nat))then some (((bs [45])++y0.1)++((bs [47])++y2.1),())else none else none else some ((bs [45])++y0.1,())else none else(S.a0n (x.1.2.2,[(1:Int)],())).bind fun y3=>if y3.1 != (0:Int)then(S.a3r (x.1.2.2,())).bind fun y4=>if decide (((1:Nat)+y4.1.size)≤(9223372036854775807:Nat))then if decide ((y0.1.size+(ByteArray.size ((bs [47])++y4.1)))≤(9223372036854775807:Nat))then some (y0.1++((bs [47])++y4.1),())else none else none else some (y0.1,())
def S.c2e (x:(RB×Unit)):(Option (ByteArray×Unit)):=P.c2d 0 x
theorem S.s_l01Show_ok (x r) (h:S.c2e x=some r):∃k,P.c2d k x=some r:=⟨0,h⟩
def P.c9f (k:Nat) (x:RB×Unit):Option ((ByteArray×Bool)×Unit):=
 (S.c2c ((x.1.1,x.1.2.1,x.1.2.2),())).bind fun y0=>if !y0.1 then some ((bs [],false),())else(S.c2e ((x.1.1,x.1.2.1,x.1.2.2),())).bind fun y1=>some ((y1.1,true),())
def S.b3u (x:(RB×Unit)):(Option ((ByteArray×Bool)×Unit)):=if rok B10 40000000 x.1=true then some (giveN (rv B10 x.1),())else none
theorem S.s_l01Give_ok (x r) (h:S.b3u x=some r):∃k,P.c9f k x=some r:=by
 obtain⟨⟨neg,as,bs'⟩,u⟩:=x;unfold S.b3u at h;dsimp only at h;split at h
 case isFalse=>cases h
 rename_i hc;cases h;rw[b9c]at hc;obtain⟨ca,cb,la,lb⟩:=hc;dsimp only at ca cb la lb;refine⟨0,?_⟩;unfold P.c9f S.c2c S.c2e P.c2b P.c2d;dsimp only;have e1:∀xs,a2s B10 xs=true→xs.length≤40000000→S.a3r (xs,())=some (⟨(Go.Lib.decDigits (a0b B10 xs)).toArray⟩,()):=by
  intro xs cx lx;unfold S.a3r;exact if_pos ⟨cx,lx⟩
 have e3:S.a0n (bs',([1],()))=some (b0q (a0b B10 bs') 1,()):=by
  unfold S.a0n;dsimp only;rw[if_pos ⟨cb,b6f a0d,by omega⟩,b7j]
 rw[e1 as ca la,Option.bind_some,e1 bs' cb lb,Option.bind_some,e3,Option.bind_some];dsimp only;have l1:=c2y (show B10≤10^10 by decide) ca;have l2:=c2y (show B10≤10^10 by decide) cb;unfold giveN rv c7y fitN;dsimp only;generalize Go.Lib.decDigits (a0b B10 as)=t1 at*;generalize Go.Lib.decDigits (a0b B10 bs')=t2 at*;rw[show bs [45]=⟨([45]:List UInt8).toArray⟩from rfl,show bs [47]=⟨([47]:List UInt8).toArray⟩from rfl];simp only[Option.bind_some];rw[c0s,c0s,c0s,c0s,c4z,c4z,c4z,c4z];have c1:(1+t1.length≤9223372036854775807):=by omega
 have c2:(1+t2.length≤9223372036854775807):=by omega
 have c3:([45]++t1).length+([47]++t2).length≤9223372036854775807:=by simp;omega
 have c4:t1.length+([47]++t2).length≤9223372036854775807:=by simp;omega
 simp only[c1,c2,c3,c4,decide_true,if_true];have d1:∀t:List UInt8,decide (((t.length:Nat):Int)≤200)=decide (t.length≤200):=by
  intro t;rw[decide_eq_decide];omega
 rw[d1,d1];have d2:((b0q (a0b B10 bs') 1 != 0)=true)↔¬a0b B10 bs'=1:=by
  rw[←a4s (b:=1)];simp
 by_cases f1:t1.length≤200
 ·by_cases f2:t2.length≤200
  ·by_cases hq:a0b B10 bs'=1
   ·have n2:¬((b0q 1 1 != 0)=true):=by decide
    cases neg<;>simp only[f1,f2,n2,hq,decide_true,if_true,if_false,Bool.false_eq_true,List.append_nil,List.nil_append,Option.bind_some,Bool.not_true,Bool.and_true]
   ·have n2:((b0q (a0b B10 bs') 1 != 0)=true):=d2.2 hq;cases neg<;>simp only[f1,f2,n2,hq,decide_true,if_true,if_false,Bool.false_eq_true,List.nil_append,Option.bind_some,Bool.not_true,Bool.and_true]<;>simp
  ·simp [f1,f2]
 ·simp [f1]
abbrev P.a9b (x1:Int×Int×List RB×List ByteArray×Unit) (g2:Int×Int×List RB×List ByteArray×Unit→Option ((List ByteArray×Bool)×Unit)):Option ((List ByteArray×Bool)×Unit):=
 if decide (x1.1<x1.2.1)then if decide ((0:Int)≤x1.1)then if decide (x1.1<(x1.2.2.1.length:Int))then(S.b3u (((x1.2.2.1.getD x1.1.toNat (false,([]:List Int),([]:List Int))).1,(x1.2.2.1.getD x1.1.toNat (false,([]:List Int),([]:List Int))).2.1,(x1.2.2.1.getD x1.1.toNat (false,([]:List Int),([]:List Int))).2.2),())).bind fun y3=>if !y3.1.2 then some ((([]:List ByteArray),false),())else if decide (((x1.2.2.2.1.length+(List.length [y3.1.1]))*(16:Nat))≤(140737488355328:Nat))then g2 (IntKind.wrap .i64 (x1.1+(1:Int)),x1.2.1,x1.2.2.1,x1.2.2.2.1++[y3.1.1],())else none else none else none else some ((x1.2.2.2.1,true),())
def P.b8j (k:Nat) (x:List RB×Unit):Option ((List ByteArray×Bool)×Unit):=
 loopP P.a9b k ((0:Int),(x.1.length:Int),x.1,([]:List ByteArray),())
def S.a8h (x:((List RB)×Unit)):(Option (((List ByteArray)×Bool)×Unit)):=if x.1.all (rok B10 40000000)=true∧x.1.length≤1000000 then some (giveL (x.1.map (rv B10)),())else none
theorem S.c9g (x r) (h:S.a8h x=some r):∃k,P.b8j k x=some r:=by
 obtain⟨xs,u⟩:=x;unfold S.a8h at h;dsimp only at h;split at h
 case isFalse=>cases h
 rename_i hc;cases h;obtain⟨qs,rfl⟩:∃qs:List Q3,xs=qs.map (rp B10):=⟨xs.map (rv B10),by
  rw[List.map_map];have:∀ys:List (Bool×(List Int×List Int)),ys.all (rok B10 40000000)=true→ys.map (rp B10 ∘ rv B10)=ys:=by
   intro ys
   induction ys with
   |nil=>intro _;rfl
   |cons y ys ih=>
    intro hy;rw[List.all_cons,Bool.and_eq_true]at hy;rw[List.map_cons,ih hy.2];show rp B10 (rv B10 y)::ys=_;rw[rp_rv hy.1]
  exact(this xs hc.1).symm⟩
 have hlen:=hc.2;rw[List.length_map]at hlen;refine⟨qs.length+1,?_⟩;unfold P.b8j giveL;dsimp only;have key:=a0h (k:=qs.length+1) (b:=P.a9b) (n:=qs.length) (st:=fun i=>((i:Int),(qs.length:Int),qs.map (rp B10),(qs.take i).map (fun r:Q3=>(⟨(c7y r).toArray⟩:ByteArray)),())) (F:=fun i=>some (if(qs.drop i).all fitN=true then(qs.map (fun r:Q3=>(⟨(c7y r).toArray⟩:ByteArray)),true)else([],false),())) (fun i g hi hg'=>by
  unfold P.a9b;dsimp only at hg' ⊢;have e1:(i:Int)<(qs.length:Int):=by omega
  have e2:(0:Int)≤(i:Int):=by omega
  have e3:(i:Int)<((qs.map (rp B10)).length:Int):=by rw[List.length_map];omega
  simp only[e1,e2,e3,decide_true,if_true];rw[a0o (qs.map (rp B10)) i _ (by rw[List.length_map];exact hi),List.getElem_map];have ht:S.b3u (rp B10 qs[i],())=some (giveN qs[i],()):=by
   unfold S.b3u;dsimp only;rw[if_pos (by have:=List.all_eq_true.1 hc.1 _ (List.mem_map.2 ⟨qs[i],List.getElem_mem hi,rfl⟩);exact this),a5t a0d]
  show Option.bind (S.b3u (rp B10 qs[i],())) _=_;rw[ht,Option.bind_some,List.drop_eq_getElem_cons hi,List.all_cons];dsimp only;cases hf:fitN qs[i]
  ·have hv:giveN qs[i]=(bs [],false):=by unfold giveN;rw[hf];rfl
   rw[hv,if_pos (by decide),Bool.false_and,if_neg (by decide)]
  ·have hv:giveN qs[i]=(⟨(c7y qs[i]).toArray⟩,true):=by unfold giveN;rw[hf];rfl
   rw[hv];have e4:(((qs.take i).map (fun r:Q3=>(⟨(c7y r).toArray⟩:ByteArray))).length+1)*16≤140737488355328:=by
    rw[List.length_map,List.length_take];omega
   rw[if_neg (by simp),wr (by omega) (by omega),Bool.true_and,←hg'];simp only[List.length_cons,List.length_nil,Nat.zero_add];rw[if_pos (decide_eq_true e4),List.take_add_one,List.getElem?_eq_getElem hi,Option.toList_some,List.map_append];rfl) (fun g=>by
  unfold P.a9b;dsimp only;rw[if_neg (by simp),List.take_length,List.drop_length];rfl) (by omega)
 rw[b2o a0d,List.length_map];refine key.trans ?_;rw[List.drop_zero]
 by_cases ha:qs.all fitN=true
 ·rw[if_pos ha,if_pos ha];congr 3;refine List.map_congr_left fun r hr=> ?_
  unfold giveN;rw[if_pos (List.all_eq_true.1 ha r hr)]
 ·rw[if_neg ha,if_neg ha]
abbrev P.b6s (x1:Int×ByteArray×Int×List ByteArray×Int×Unit) (g2:Int×ByteArray×Int×List ByteArray×Int×Unit→Option (List ByteArray×Unit)):Option (List ByteArray×Unit):=
 (fun(a c e:Int) (b:ByteArray) (d:List ByteArray)=>if decide (a≤(b.size:Int))then if a==(b.size:Int)then if decide ((0:Int)≤a)then if decide (a≤(b.size:Int))then if decide ((0:Int)≤e)then if decide (e≤a)then if decide (((d.length+(List.length [ByteArray.extract b e.toNat a.toNat]))*(16:Nat))≤(140737488355328:Nat))then g2 (IntKind.wrap .i64 (a+(1:Int)),b,c,d++[ByteArray.extract b e.toNat a.toNat],IntKind.wrap .i64 (a+(1:Int)),())else none else none else none else none else none else if decide ((0:Int)≤a)then if decide (a<(b.size:Int))then if(a2h b a)==c then if decide ((0:Int)≤a)then if decide (a≤(b.size:Int))then if decide ((0:Int)≤e)then if decide (e≤a)then if decide (((d.length+(List.length [ByteArray.extract b e.toNat a.toNat]))*(16:Nat))≤(140737488355328:Nat))then g2 (IntKind.wrap .i64 (a+(1:Int)),b,c,d++[ByteArray.extract b e.toNat a.toNat],IntKind.wrap .i64 (a+(1:Int)),())else none else none else none else none else none else g2 (IntKind.wrap .i64 (a+(1:Int)),b,c,d,e,())else none else none else some (d,())) x1.1 x1.2.2.1 x1.2.2.2.2.1 x1.2.1 x1.2.2.2.1
def P.s_l01Cut (k:Nat) (x:ByteArray×Int×Unit):Option (List ByteArray×Unit):=
 loopP P.b6s k ((0:Int),x.1,x.2.1,([]:List ByteArray),(0:Int),())
def a9c (s:ByteArray) (c:Int):Nat→List ByteArray×Nat
 |0=>([],0)
 |i+1=>if i=s.size∨a2h s (i:Int)=c then((a9c s c i).1++[s.extract (a9c s c i).2 i],i+1)else a9c s c i
theorem cutUp_le (s:ByteArray) (c:Int) (i:Nat):(a9c s c i).1.length≤i∧(a9c s c i).2≤i:=by
 induction i with
 |zero=>exact⟨Nat.le_refl _,Nat.le_refl _⟩
 |succ i ih=>
  unfold a9c;split
  ·refine⟨?_,Nat.le_refl _⟩;simp;omega
  ·omega
def S.a7q (x:(ByteArray×(Int×Unit))):(Option ((List ByteArray)×Unit)):=if x.1.size≤1000000 then some ((a9c x.1 x.2.1 (x.1.size+1)).1,())else none
theorem S.s_l01Cut_ok (x r) (h:S.a7q x=some r):∃k,P.s_l01Cut k x=some r:=by
 obtain⟨s,c,u⟩:=x;unfold S.a7q at h;dsimp only at h;split at h
 case isFalse=>cases h
 rename_i hs;cases h;refine⟨s.size+2,?_⟩;unfold P.s_l01Cut;dsimp only;have key:=a0h (k:=s.size+2) (b:=P.b6s) (n:=s.size+1) (st:=fun i=>((i:Int),s,c,(a9c s c i).1,((a9c s c i).2:Int),())) (F:=fun i=>some ((a9c s c (s.size+1)).1,())) (fun i g hi hg=>by
  unfold P.b6s;dsimp only at hg ⊢;obtain⟨q1,q2⟩:=cutUp_le s c i;have e1:(i:Int)≤(s.size:Int):=by omega
  have e2:(0:Int)≤(i:Int):=by omega
  have e3:(0:Int)≤((a9c s c i).2:Int):=by omega
  have e4:((a9c s c i).2:Int)≤(i:Int):=by omega
  have e5:((a9c s c i).1.length+([s.extract (a9c s c i).2 i]:List ByteArray).length)*16≤140737488355328:=by simp;omega
  rw[a9c]at hg
  by_cases hq:i=s.size
  ·rw[if_pos (.inl hq)]at hg;rw[←hg];have e6:((i:Int)==(s.size:Int))=true:=by simp [hq]
   simp only[e1,e2,e3,e4,e6,decide_true,if_true,Int.toNat_natCast];rw[if_pos (decide_eq_true e5),wr (by omega) (by omega)];rfl
  ·have e6:¬((i:Int)==(s.size:Int))=true:=by simp;omega
   have e7:(i:Int)<(s.size:Int):=by omega
   rw[if_pos (decide_eq_true e1),if_neg e6,if_pos (decide_eq_true e2),if_pos (decide_eq_true e7)]
   by_cases hb:a2h s (i:Int)=c
   ·rw[if_pos (.inr hb)]at hg;rw[←hg,if_pos (by simp [hb])];simp only[e1,e2,e3,e4,decide_true,if_true,Int.toNat_natCast];rw[if_pos (decide_eq_true e5),wr (by omega) (by omega)];rfl
   ·rw[if_neg (fun z=>z.elim hq hb)]at hg;rw[←hg,if_neg (by simp [hb]),wr (by omega) (by omega)];rfl) (fun g=>by
  unfold P.b6s;dsimp only;rw[if_neg (by simp;omega)]) (by omega)
 exact key
theorem c6j (s:ByteArray) (c:UInt8):(a9c s (c.toNat:Int) (s.size+1)).1.map (·.data.toList)=a4z c s.data.toList:=by
 have hsz:s.size=s.data.toList.length:=by rw[Array.length_toList];rfl
 have hex:∀a b,(s.extract a b).data.toList=(s.data.toList.take b).drop a:=by
  intro a b;simp [ByteArray.data_extract,Array.toList_extract,List.extract_eq_take_drop,List.drop_take]
 have key:∀i,i≤s.size→a4z c s.data.toList=(a9c s (c.toNat:Int) i).1.map (·.data.toList)++glue ((s.data.toList.take i).drop (a9c s (c.toNat:Int) i).2) (a4z c (s.data.toList.drop i)):=by
  intro i
  induction i with
  |zero=>
   intro _;simp [a9c,glue_nil (b9d c _)]
  |succ i ih=>
   intro hi;rw[ih (by omega)];obtain⟨q1,q2⟩:=cutUp_le s (c.toNat:Int) i;have hi':i<s.data.toList.length:=by omega
   have hb:a2h s (i:Int)=(s.data.toList[i].toNat:Int):=by
    unfold a2h;rw[a0o _ i _ hi']
   rw[List.drop_eq_getElem_cons hi',a9c,a4z]
   by_cases hc:s.data.toList[i]=c
   ·rw[if_pos hc,if_pos (.inr (by rw[hb,hc]))];simp only[List.map_append,List.map_cons,List.map_nil,hex,List.append_assoc];congr 1;rw[show List.drop (i+1) (List.take (i+1) s.data.toList)=[]from List.drop_eq_nil_of_le (by simp;omega),glue_nil (b9d c _)];simp [glue]
   ·rw[if_neg hc,if_neg (by
     rw[hb]
     rintro (h|h)
     ·omega
     ·exact hc (UInt8.toNat_inj.1 (by omega)))]
    rw[glue_glue,←List.take_append_getElem hi',List.drop_append_of_le_length (by simp;omega)]
 have h:=key s.size (Nat.le_refl _);rw[h,a9c,if_pos (.inl rfl)];simp only[List.map_append,List.map_cons,List.map_nil,hex];congr 1;rw[show List.drop s.size s.data.toList=[]from List.drop_eq_nil_of_le (by omega)];simp [a4z,glue]
abbrev P.b4t (x1:List Int×Unit) (g2:List Int×Unit→Option (List Int×Unit)):Option (List Int×Unit):=
 if decide ((x1.1.length:Int)>(0:Int))then if decide ((0:Int)≤(IntKind.wrap .i64 ((x1.1.length:Int) - (1:Int))))then if decide ((IntKind.wrap .i64 ((x1.1.length:Int) - (1:Int)))<(x1.1.length:Int))then if(x1.1.getD (Int.toNat (IntKind.wrap .i64 ((x1.1.length:Int) - (1:Int)))) (0:Int))==(0:Int)then if decide ((0:Int)≤(IntKind.wrap .i64 ((x1.1.length:Int) - (1:Int))))then if decide ((IntKind.wrap .i64 ((x1.1.length:Int) - (1:Int)))≤(x1.1.length:Int))then if decide ((0:Int)≤(IntKind.wrap .i64 ((x1.1.length:Int) - (1:Int))))then g2 (seen x1.1 (0:Nat) ((Int.toNat (IntKind.wrap .i64 ((x1.1.length:Int) - (1:Int)))) - (0:Nat)),())else none else none else none else some (x1.1,())else none else none else some (x1.1,())
def P.s_l01Trim (k:Nat) (x:List Int×Unit):Option (List Int×Unit):=
 loopP P.b4t k (x.1,())
theorem trim_loopS (n:Nat):∀(xs:List Int) (k:Nat),xs.length=n→n<k→n≤1000000000000→dig B10 xs=true→loopP (X:=((List Int)×Unit)) (R:=((List Int)×Unit)) P.b4t k (xs,())=some (nd B10 (a0b B10 xs),()):=by
 induction n with
 |zero=>
  intro xs k hx hk _ _;have:xs=[]:=List.eq_nil_of_length_eq_zero hx;subst this;obtain⟨k,rfl⟩:∃j,k=j+1:=⟨k - 1,by omega⟩
  rw[a0k];unfold P.b4t;rw[if_neg (by simp)];rw[show a0b B10 []=0 from rfl,a1s a0d]
 |succ n ih=>
  intro xs k hx hk hn hd;obtain⟨k,rfl⟩:∃j,k=j+1:=⟨k - 1,by omega⟩
  rw[a0k];unfold P.b4t;dsimp only;have e0:IntKind.wrap .i64 ((xs.length:Int) - 1)=(n:Int):=by rw[wr (by omega) (by omega)];omega
  have e1:(xs.length:Int)>0:=by omega
  have e2:(0:Int)≤(n:Int):=by omega
  have e3:(n:Int)<(xs.length:Int):=by omega
  have e4:(n:Int)≤(xs.length:Int):=by omega
  rw[e0];simp only[e1,e2,e3,e4,decide_true,if_true];rw[a0o xs n _ (by omega)];have hs:=c2u xs n hx;have hdt:dig B10 (xs.take n++[xs[n]])=true:=by rw[←hs];exact hd
  by_cases hz:xs[n]=0
  ·rw[if_pos (by simp [hz])];have e5:seen xs 0 ((n:Int).toNat - 0)=xs.take n:=by simp [seen]
   rw[e5];have hdt':=hdt;rw[a1k,Bool.and_eq_true]at hdt';rw[ih (xs.take n) k (by simp;omega) (by omega) (by omega) hdt'.1];have:a0b B10 xs=a0b B10 (xs.take n):=by
    conv=>lhs;rw[hs,hz]
    exact b1h _
   rw[this]
  ·rw[if_neg (by simp [hz])];have:=d1j a0d (xs.take n) xs[n] hdt hz;rw[←hs]at this;rw[this]
def S.a3v (x:((List Int)×Unit)):(Option ((List Int)×Unit)):=if dig B10 x.1=true∧x.1.length≤1000000000000 then some (nd B10 (a0b B10 x.1),())else none
theorem S.s_l01Trim_ok (x r) (h:S.a3v x=some r):∃k,P.s_l01Trim k x=some r:=by
 obtain⟨xs,u⟩:=x;unfold S.a3v at h;dsimp only at h;split at h
 case isFalse=>cases h
 rename_i hc;cases h;exact⟨xs.length+1,trim_loopS xs.length xs _ rfl (by omega) hc.2 hc.1⟩
theorem trim_s (xs:List Int) (h:dig B10 xs=true) (hl:xs.length≤1000000000000):S.a3v (xs,())=some (nd B10 (a0b B10 xs),()):=by
 unfold S.a3v;dsimp only;rw[if_pos ⟨h,hl⟩]
abbrev P.b6t (x1:Int×List Int×Unit) (g2:Int×List Int×Unit→Option (List Int×Unit)):Option (List Int×Unit):=
 if decide (x1.1>(0:Int))then if decide (((x1.2.1.length+(List.length [Int.tmod x1.1 (1000000000:Int)]))*(8:Nat))≤(140737488355328:Nat))then g2 (IntKind.wrap .i64 (Int.tdiv x1.1 (1000000000:Int)),x1.2.1++[Int.tmod x1.1 (1000000000:Int)],())else none else some (x1.2.1,())
def P.s_l01Nat (k:Nat) (x:Int×Unit):Option (List Int×Unit):=
 loopP P.b6t k (x.1,([]:List Int),())
def S.a6s (x:(Int×Unit)):(Option ((List Int)×Unit)):=if 0≤x.1∧x.1≤9223372036854775807 then some (nd B10 x.1.toNat,())else none
theorem l01Nat_loop (k:Nat):∀(n:Nat) (out:List Int),n<2^k→n≤9223372036854775807→out.length+k≤1000000→loopP (X:=(Int×((List Int)×Unit))) (R:=((List Int)×Unit)) P.b6t (k+1) ((n:Int),(out,()))=some (out++nd B10 n,()):=by
 induction k with
 |zero=>
  intro n out hn _ _;have:n=0:=by omega
  subst this;rw[a0k];unfold P.b6t;rw[if_neg (by simp),a1s a0d,List.append_nil]
 |succ k ih=>
  intro n out hn hm ho;rw[a0k];unfold P.b6t;dsimp only
  by_cases h:n=0
  ·subst h;rw[if_neg (by simp),a1s a0d,List.append_nil]
  ·have e1:(n:Int)>0:=by omega
   have e2:(out.length+(Int.tmod (n:Int) 1000000000::([]:List Int)).length)*8≤140737488355328:=by simp;omega
   rw[if_pos (decide_eq_true e1),if_pos (decide_eq_true e2)];have eT:Int.tdiv (n:Int) 1000000000=((n/1000000000:Nat):Int):=by rw[Int.tdiv_eq_ediv_of_nonneg (by omega)];omega
   have eM:Int.tmod (n:Int) 1000000000=((n%1000000000:Nat):Int):=by rw[Int.tmod_eq_emod_of_nonneg (by omega)];omega
   rw[eT,eM,wr (by omega) (by omega),ih (n/1000000000) _ (by rw[Nat.pow_succ]at hn;omega) (by omega) (by simp;omega),b4e a0d h,List.append_assoc];rfl
theorem S.s_l01Nat_ok (x r) (h:S.a6s x=some r):∃k,P.s_l01Nat k x=some r:=by
 obtain⟨n,u⟩:=x;unfold S.a6s at h;dsimp only at h;split at h
 case isFalse=>cases h
 rename_i hc;cases h;refine⟨64,?_⟩;unfold P.s_l01Nat;dsimp only
 have:=l01Nat_loop 63 n.toNat [] (by have:(2:Nat)^63=9223372036854775808:=by decide
                                     omega) (by omega) (by simp)
 rw[show((n.toNat:Nat):Int)=n by omega]at this;exact this
def P.b3k (k:Nat) (x:List Int×Int×Unit):Option (Int×Unit):=
 if decide (x.2.1<(x.1.length:Int))then if decide ((0:Int)≤x.2.1)then if decide (x.2.1<(x.1.length:Int))then some (x.1.getD x.2.1.toNat (0:Int),())else none else none else some ((0:Int),())
def S.a1r (x:((List Int)×(Int×Unit))):(Option (Int×Unit)):=P.b3k 0 x
theorem S.s_l01Digit_ok (x r) (h:S.a1r x=some r):∃k,P.b3k k x=some r:=⟨0,h⟩
def P.c4b (k:Nat) (x:List Int×Unit):Option ((Int×Bool)×Unit):=
 if decide ((x.1.length:Int)>(2:Int))then some (((0:Int),false),())else(S.a1r (x.1,(0:Int),())).bind fun y0=>(S.a1r (x.1,(1:Int),())).bind fun y1=>some ((IntKind.wrap .i64 (y0.1+(IntKind.wrap .i64 ((1000000000:Int)*y1.1))),true),())
theorem dig_s (xs:List Int) (i:Nat):S.a1r (xs,((i:Int),()))=some (xs.getD i 0,()):=by
 unfold S.a1r P.b3k;dsimp only
 by_cases h:i<xs.length
 ·have e1:(i:Int)<(xs.length:Int):=by omega
  have e2:(0:Int)≤(i:Int):=by omega
  simp only[e1,e2,decide_true,if_true,Int.toNat_natCast]
 ·rw[if_neg (by simp;omega)];simp [List.getD,List.getElem?_eq_none (Nat.le_of_not_lt h)]
def S.a6t (x:((List Int)×Unit)):(Option ((Int×Bool)×Unit)):=if dig B10 x.1=true∧x.1.length≤1000000000000 then some ((if x.1.length≤2 then((a0b B10 x.1:Nat):Int)else 0,decide (x.1.length≤2)),())else none
theorem S.s_l01Small_ok (x r) (h:S.a6t x=some r):∃k,P.c4b k x=some r:=by
 obtain⟨xs,u⟩:=x;unfold S.a6t at h;dsimp only at h;split at h
 case isFalse=>cases h
 rename_i hc;obtain⟨hd,hl⟩:=hc;cases h;refine⟨0,?_⟩;unfold P.c4b;dsimp only
 by_cases h2:xs.length≤2
 ·rw[if_neg (by simp;omega),if_pos h2,decide_eq_true h2];rw[show S.a1r (xs,((0:Int),()))=_ from dig_s xs 0,show S.a1r (xs,((1:Int),()))=_ from dig_s xs 1,Option.bind_some,Option.bind_some];dsimp only
  match xs,hd,h2 with
  | [],_,_=>rfl
  | [a],hd,_=>
   rw[a2j]at hd;have h1:a<1000000000:=hd.1.2;have h0:=hd.1.1;show some ((IntKind.wrap .i64 (a+IntKind.wrap .i64 (1000000000*0)),true),())=_;rw[wr (x:=(1000000000:Int)*0) (by omega) (by omega),wr (by omega) (by omega)];simp only[a0b,Option.some.injEq,Prod.mk.injEq,and_true];omega
  | [a,b],hd,_=>
   rw[a2j,a2j]at hd;have h1:a<1000000000:=hd.1.2;have h0:=hd.1.1;have h3:b<1000000000:=hd.2.1.2;have h4:=hd.2.1.1;show some ((IntKind.wrap .i64 (a+IntKind.wrap .i64 (1000000000*b)),true),())=_;rw[wr (x:=(1000000000:Int)*b) (by omega) (by omega),wr (by omega) (by omega)];simp only[a0b,Option.some.injEq,Prod.mk.injEq,and_true];show _=((a.toNat+1000000000*(b.toNat+1000000000*0):Nat):Int)
   omega
  |_::_::_::_,_,h2=>simp at h2
 ·rw[if_pos (decide_eq_true (by omega)),if_neg h2,decide_eq_false h2]
abbrev P.a7r (x1:Int×Int×List Int×Int×Int×List Int×Unit) (g2:Int×Int×List Int×Int×Int×List Int×Unit→Option (List Int×Unit)):Option (List Int×Unit):=
 (fun(a b d e:Int) (c f:List Int)=>if decide (a<b)then if decide ((0:Int)≤a)then if decide (a<(c.length:Int))then if decide (((f.length+(List.length [Int.tmod (IntKind.wrap .i64 ((IntKind.wrap .i64 ((c.getD a.toNat (0:Int))*d))+e)) (1000000000:Int)]))*(8:Nat))≤(140737488355328:Nat))then g2 (IntKind.wrap .i64 (a+(1:Int)),b,c,d,IntKind.wrap .i64 (Int.tdiv (IntKind.wrap .i64 ((IntKind.wrap .i64 ((c.getD a.toNat (0:Int))*d))+e)) (1000000000:Int)),f++[Int.tmod (IntKind.wrap .i64 ((IntKind.wrap .i64 ((c.getD a.toNat (0:Int))*d))+e)) (1000000000:Int)],())else none else none else none else if decide (e>(0:Int))then if decide (((f.length+(List.length [e]))*(8:Nat))≤(140737488355328:Nat))then some (f++[e],())else none else some (f,())) x1.1 x1.2.1 x1.2.2.2.1 x1.2.2.2.2.1 x1.2.2.1 x1.2.2.2.2.2.1
def P.b6u (k:Nat) (x:List Int×Int×Unit):Option (List Int×Unit):=
 if decide ((0:Int)≤(IntKind.wrap .i64 ((x.1.length:Int)+(1:Int))))then if decide (((IntKind.wrap .i64 ((x.1.length:Int)+(1:Int)))*(8:Int))≤(281474976710656:Int))then loopP P.a7r k ((0:Int),(x.1.length:Int),x.1,x.2.1,(0:Int),seen (List.replicate (Int.toNat (IntKind.wrap .i64 ((x.1.length:Int)+(1:Int)))) (0:Int)) 0 (0:Nat),())else none else none
def S.a1y (x:((List Int)×(Int×Unit))):(Option ((List Int)×Unit)):=if a2s B10 x.1=true∧0<x.2.1∧x.2.1≤1000000000∧x.1.length≤1000000000000 then some (nd B10 (a0b B10 x.1*x.2.1.toNat),())else none
theorem S.c7d (x r) (h:S.a1y x=some r):∃k,P.b6u k x=some r:=by
 obtain⟨xs,b,u⟩:=x;unfold S.a1y at h;dsimp only at h;split at h
 case isFalse=>cases h
 rename_i hc;obtain⟨hcan,hb0,hb1,hl⟩:=hc;have hd:=a1o hcan;cases h;obtain⟨d,rfl⟩:∃d:Nat,b=(d:Int):=⟨b.toNat,by omega⟩
 refine⟨xs.length+1,?_⟩;unfold P.b6u;dsimp only;rw[wr (by omega) (by omega)];have a1:(0:Int)≤(xs.length:Int)+1:=by omega
 have a3:((xs.length:Int)+1)*8≤281474976710656:=by omega
 rw[if_pos (decide_eq_true a1),if_pos (decide_eq_true a3)];have e0:seen (List.replicate ((xs.length:Int)+1).toNat (0:Int)) 0 (0:Nat)=[]:=by simp [seen]
 rw[e0,Int.toNat_natCast];have key:=a0h (k:=xs.length+1) (b:=P.a7r) (n:=xs.length) (st:=fun i=>((i:Int),(xs.length:Int),xs,(d:Int),((b0s B10 d xs i).2:Int),(b0s B10 d xs i).1,())) (F:=fun i=>some (nd B10 (a0b B10 xs*d),())) (fun i g hi hg=>by
  unfold P.a7r;dsimp only at hg ⊢;obtain⟨q1,q2,q3,q4⟩:=c8l (d:=d) a0d hd i (by omega);have e1:(i:Int)<(xs.length:Int):=by omega
  have e2:(0:Int)≤(i:Int):=by omega
  simp only[e1,e2,decide_true,if_true];have hgD:xs.getD i 0=xs[i]:=by simp [hi]
  have hx:=b5n hd hi;have hx1:xs[i]<1000000000:=hx.2;have hx0:=hx.1;rw[a0o xs i _ hi];rw[b0s,hgD]at hg;generalize hP:b0s B10 d xs i=p at*;obtain⟨z,hz⟩:∃z:Nat,xs[i]=(z:Int):=⟨xs[i].toNat,(Int.toNat_of_nonneg hx0).symm⟩
  rw[hz]at hx1 hg ⊢;rw[Int.toNat_natCast]at hg;have hzd:z*d≤999999999000000000:=Nat.mul_le_mul (show z≤999999999 by omega) (show d≤1000000000 by omega);have em:(z:Int)*(d:Int)=((z*d:Nat):Int):=(Int.natCast_mul _ _).symm;rw[em,wr (x:=((z*d:Nat):Int)) (by omega) (by omega),wr (x:=((z*d:Nat):Int)+(p.2:Int)) (by omega) (by omega)];have eT:Int.tdiv (((z*d:Nat):Int)+(p.2:Int)) 1000000000=(((z*d+p.2)/B10:Nat):Int):=by
   rw[Int.tdiv_eq_ediv_of_nonneg (by omega)];show _=(((z*d+p.2)/1000000000:Nat):Int)
   omega
  have eM:Int.tmod (((z*d:Nat):Int)+(p.2:Int)) 1000000000=(((z*d+p.2)%B10:Nat):Int):=by
   rw[Int.tmod_eq_emod_of_nonneg (by omega)];show _=(((z*d+p.2)%1000000000:Nat):Int)
   omega
  have hq:(z*d+p.2)/B10≤9223372036854775807:=Nat.le_trans (Nat.div_le_self _ _) (by omega);have hcap:(p.1.length+([Int.tmod (((z*d:Nat):Int)+(p.2:Int)) 1000000000]:List Int).length)*8≤140737488355328:=by
   rw[q2];simp;omega
  rw[if_pos (decide_eq_true hcap),eT,eM,wr (x:=(((z*d+p.2)/B10:Nat):Int)) (Int.le_trans (by decide) (Int.natCast_nonneg _)) (Int.ofNat_le.2 hq),wr (by omega) (by omega)];exact hg) (fun g=>by
  unfold P.a7r;dsimp only;obtain⟨q1,q2,q3,q4⟩:=c8l (d:=d) a0d hd xs.length (Nat.le_refl _);rw[List.take_length]at q3;generalize hP:b0s B10 d xs xs.length=p at*;rw[if_neg (by simp)]
  by_cases hz:p.2=0
  ·rw[if_neg (by simp [hz])];rw[hz,Nat.mul_zero,Nat.add_zero]at q3;rw[←q3];rcases List.eq_nil_or_concat p.1 with e|_
   ·rw[e];show _=some (nd B10 0,());rw[a1s a0d]
   ·by_cases hx:xs=[]
    ·subst hx;have:p.1=[]:=List.eq_nil_of_length_eq_zero q2;rw[this];show _=some (nd B10 0,());rw[a1s a0d]
    ·have hpos:0<xs.length:=List.length_pos_iff.2 hx;have hv:a0b B10 xs≠0:=by
      intro q;have:=a1b hcan;rw[q,a1s a0d]at this;exact hx this.symm
     have hlow:=nd_low a0d hv;rw[a1b hcan]at hlow;have hne:p.1≠ []:=by
      intro q;rw[q]at q2;simp at q2;omega
     have hge:B10^(p.1.length - 1)≤a0b B10 p.1:=by
      rw[q2,q3];exact Nat.le_trans hlow (Nat.le_mul_of_pos_right _ (by omega))
     rw[nd_full a0d q1 hne hge]
  ·have e1:(p.2:Int)>0:=by omega
   have hcap:(p.1.length+([(p.2:Int)]:List Int).length)*8≤140737488355328:=by
    rw[q2];simp;omega
   rw[if_pos (decide_eq_true e1),if_pos (decide_eq_true hcap),←q3];have hlt:p.2<B10:=by
    have h1:=a1l hd;have h2:B10^xs.length*p.2<B10^xs.length*d:=by
     have:a0b B10 xs*d<B10^xs.length*d:=Nat.mul_lt_mul_of_pos_right h1 (by omega);omega
    have:=Nat.lt_of_mul_lt_mul_left h2;show p.2<1000000000;omega
   have hdd:dig B10 (p.1++[(p.2:Int)])=true:=by
    rw[a1k,q1,Bool.true_and,a2j];exact⟨⟨Int.natCast_nonneg _,Int.ofNat_lt.2 hlt⟩,rfl⟩
   have:=d1j a0d p.1 (p.2:Int) hdd (by omega);rw[a0w,q2]at this;have e2:a0b B10 [(p.2:Int)]=p.2:=by simp [a0b]
   rw[e2]at this;rw[this]) (by omega)
 exact key
abbrev P.a7s (x1:Int×Int×List Int×List Int×Int×Unit) (g2:Int×Int×List Int×List Int×Int×Unit→Option ((List Int×Int)×Unit)):Option ((List Int×Int)×Unit):=
 (fun(a b e:Int) (c d:List Int)=>if decide (a≥(0:Int))then if decide ((0:Int)≤a)then if decide (a<(c.length:Int))then if decide (e=(0:Int))then none else if decide ((0:Int)≤a)then if decide (a<(d.length:Int))then if decide (e=(0:Int))then none else g2 (IntKind.wrap .i64 (a - (1:Int)),Int.tmod (IntKind.wrap .i64 ((IntKind.wrap .i64 (b*(1000000000:Int)))+(c.getD a.toNat (0:Int)))) e,c,d.set ((0:Nat)+a.toNat) (IntKind.wrap .i64 (Int.tdiv (IntKind.wrap .i64 ((IntKind.wrap .i64 (b*(1000000000:Int)))+(c.getD a.toNat (0:Int)))) e)),e,())else none else none else none else none else(S.a3v (d,())).bind fun y3=>some ((y3.1,b),())) x1.1 x1.2.1 x1.2.2.2.2.1 x1.2.2.1 x1.2.2.2.1
def P.b6v (k:Nat) (x:List Int×Int×Unit):Option ((List Int×Int)×Unit):=
 if decide ((0:Int)≤(x.1.length:Int))then if decide ((x.1.length:Int)≤(x.1.length:Int))then if decide (((x.1.length:Int)*(8:Int))≤(281474976710656:Int))then loopP P.a7s k (IntKind.wrap .i64 ((x.1.length:Int) - (1:Int)),(0:Int),x.1,List.replicate (Int.toNat (x.1.length:Int)) (0:Int),x.2.1,())else none else none else none
def S.a2u (x:((List Int)×(Int×Unit))):(Option (((List Int)×Int)×Unit)):=if dig B10 x.1=true∧0<x.2.1∧x.2.1<1000000001∧x.1.length≤1000000000000 then some ((nd B10 (a0b B10 x.1/x.2.1.toNat),((a0b B10 x.1%x.2.1.toNat:Nat):Int)),())else none
theorem S.c7e (x r) (h:S.a2u x=some r):∃k,P.b6v k x=some r:=by
 obtain⟨xs,b,u⟩:=x;unfold S.a2u at h;dsimp only at h;split at h
 case isFalse=>cases h
 rename_i hc;obtain⟨hd,hb0,hb1,hl⟩:=hc;cases h;refine⟨xs.length+1,?_⟩;unfold P.b6v;dsimp only;have a1:(0:Int)≤(xs.length:Int):=by omega
 have a2:(xs.length:Int)≤(xs.length:Int):=by omega
 have a3:(xs.length:Int)*8≤281474976710656:=by omega
 simp only[a1,a2,a3,decide_true,if_true];rw[wr (by omega) (by omega),Int.toNat_natCast];have hdr:∀m,dig B10 (xs.drop m)=true:=by
  intro m;have:=List.take_append_drop m xs;have hd':=hd;rw[←this,a1k,Bool.and_eq_true]at hd';exact hd'.2
 have hbN:0<b.toNat:=by omega
 have key:=a0h (k:=xs.length+1) (b:=P.a7s) (n:=xs.length) (st:=fun j=>((xs.length:Int) - 1 - (j:Int),((c8k B10 b.toNat (xs.drop (xs.length - j))).2:Int),xs,List.replicate (xs.length - j) (0:Int)++(c8k B10 b.toNat (xs.drop (xs.length - j))).1,b,())) (F:=fun j=>some ((nd B10 (a0b B10 xs/b.toNat),((a0b B10 xs%b.toNat:Nat):Int)),())) (fun j g hj hg=>by
  unfold P.a7s;dsimp only at hg ⊢;obtain⟨q1,q2,q3,q4⟩:=qdiv_ok B10 b.toNat hbN (xs.drop (xs.length - j)) (hdr _);have hi:xs.length - (j+1)<xs.length:=by omega
  have e5:(xs.length:Int) - 1 - (j:Int)=((xs.length - (j+1):Nat):Int):=by omega
  have e6:xs.drop (xs.length - (j+1))=xs[xs.length - (j+1)]::xs.drop (xs.length - j):=by
   rw[List.drop_eq_getElem_cons hi];congr 2;omega
  have e7:xs.length - j=(xs.length - (j+1))+1:=by omega
  have hlen:(List.replicate (xs.length - j) (0:Int)++(c8k B10 b.toNat (xs.drop (xs.length - j))).1).length=xs.length:=by
   rw[List.length_append,List.length_replicate,q2,List.length_drop];omega
  have hx:=b5n hd hi;have hx1:xs[xs.length - (j+1)]<1000000000:=hx.2;have hx0:=hx.1;have hm:(c8k B10 b.toNat (xs.drop (xs.length - j))).2<b.toNat:=by rw[q4];exact Nat.mod_lt _ hbN
  rw[e6]at hg;rw[hlen,e5,a0o xs _ _ hi];have a1:((xs.length - (j+1):Nat):Int)≥0:=by omega
  have a2:(0:Int)≤((xs.length - (j+1):Nat):Int):=by omega
  have a3:((xs.length - (j+1):Nat):Int)<(xs.length:Int):=by omega
  have a4:¬(b=0):=by omega
  simp only[a1,a3,a4,decide_true,decide_false,if_true,if_false,Bool.false_eq_true];generalize hR:(c8k B10 b.toNat (xs.drop (xs.length - j))).2=R at*;generalize hX:xs[xs.length - (j+1)]=X at*;have hRX:(R:Int)*1000000000+X<b*1000000000:=by omega
  rw[wr (x:=(R:Int)*1000000000) (by omega) (by omega),wr (x:=(R:Int)*1000000000+X) (by omega) (by omega)];have eT:Int.tdiv ((R:Int)*1000000000+X) b=(((R*B10+X.toNat)/b.toNat:Nat):Int):=by
   rw[Int.tdiv_eq_ediv_of_nonneg (by omega)];have:(R:Int)*1000000000+X=((R*1000000000+X.toNat:Nat):Int):=by omega
   rw[this];have hb:b=((b.toNat:Nat):Int):=by omega
   conv=>lhs;rw[hb]
   exact(Int.natCast_ediv _ _).symm
  have eM:Int.tmod ((R:Int)*1000000000+X) b=(((R*B10+X.toNat)%b.toNat:Nat):Int):=by
   rw[Int.tmod_eq_emod_of_nonneg (by omega)];have:(R:Int)*1000000000+X=((R*1000000000+X.toNat:Nat):Int):=by omega
   rw[this];have hb:b=((b.toNat:Nat):Int):=by omega
   conv=>lhs;rw[hb]
   exact(Int.natCast_emod _ _).symm
  have hQ:(R*B10+X.toNat)/b.toNat<B10:=(Nat.div_lt_iff_lt_mul hbN).2 (by
   show R*1000000000+X.toNat<1000000000*b.toNat;omega)
  have hQ':(R*B10+X.toNat)/b.toNat<1000000000:=hQ;have z0:(0:Int)≤(((R*B10+X.toNat)/b.toNat:Nat):Int):=Int.natCast_nonneg _;have z1:(((R*B10+X.toNat)/b.toNat:Nat):Int)<1000000000:=Int.ofNat_lt.2 hQ';rw[eT,eM,wr (Int.le_trans (by decide) z0) (Int.le_of_lt (Int.lt_trans z1 (by decide))),wr (x:=((xs.length - (j+1):Nat):Int) - 1) (by omega) (by omega),Nat.zero_add,Int.toNat_natCast];have hset:∀(Q:List Int) (v:Int),(List.replicate (xs.length - j) (0:Int)++Q).set (xs.length - (j+1)) v=List.replicate (xs.length - (j+1)) 0++v::Q:=by
   intro Q v;rw[e7];exact set_back _ _ _
  rw[hset,←hg];congr 1;simp only[Prod.mk.injEq,c8k];rw[hR]
  and_intros<;>first|rfl|omega|trivial) (fun g=>by
  unfold P.a7s;dsimp only;obtain⟨q1,q2,q3,q4⟩:=qdiv_ok B10 b.toNat hbN xs hd;rw[if_neg (by simp;omega),Nat.sub_self,List.drop_zero,List.replicate_zero,List.nil_append,trim_s _ q1 (by omega),Option.bind_some,q3,q4]) (by omega)
 rw[show(xs.length:Int) - 1 - ((0:Nat):Int)=(xs.length:Int) - 1 by omega,Nat.sub_zero,List.drop_length]at key;simpa [c8k]using key
abbrev s_l01TakeOff.A:=Int×Int×List Int×List Int×Int×Int×Int×List Int×Unit
abbrev P.a9d (x1:s_l01TakeOff.A) (g2:s_l01TakeOff.A→Option (Bool×List Int×Unit)):Option (Bool×List Int×Unit):=
 (fun(a b e f h:Int) (c d i:List Int)=>if decide (a<b)then if decide ((0:Int)≤a)then if decide (a<(c.length:Int))then if decide ((0:Int)≤(IntKind.wrap .i64 (e+a)))then if decide ((IntKind.wrap .i64 (e+a))<(d.length:Int))then if decide ((IntKind.wrap .i64 ((IntKind.wrap .i64 ((d.getD ((0:Nat)+(Int.toNat (IntKind.wrap .i64 (e+a)))) (0:Int)) - (Int.tmod (IntKind.wrap .i64 ((c.getD a.toNat (0:Int))*f)) (1000000000:Int)))) - h))<(0:Int))then if decide ((IntKind.wrap .i64 ((IntKind.wrap .i64 ((IntKind.wrap .i64 ((d.getD ((0:Nat)+(Int.toNat (IntKind.wrap .i64 (e+a)))) (0:Int)) - (Int.tmod (IntKind.wrap .i64 ((c.getD a.toNat (0:Int))*f)) (1000000000:Int)))) - h))+(1000000000:Int)))<(0:Int))then if decide ((0:Int)≤(IntKind.wrap .i64 (e+a)))then if decide ((IntKind.wrap .i64 (e+a))<(d.length:Int))then g2 (IntKind.wrap .i64 (a+(1:Int)),b,c,d.set ((0:Nat)+(Int.toNat (IntKind.wrap .i64 (e+a)))) (IntKind.wrap .i64 ((IntKind.wrap .i64 ((IntKind.wrap .i64 ((IntKind.wrap .i64 ((d.getD ((0:Nat)+(Int.toNat (IntKind.wrap .i64 (e+a)))) (0:Int)) - (Int.tmod (IntKind.wrap .i64 ((c.getD a.toNat (0:Int))*f)) (1000000000:Int)))) - h))+(1000000000:Int)))+(1000000000:Int))),e,f,IntKind.wrap .i64 ((IntKind.wrap .i64 ((IntKind.wrap .i64 (Int.tdiv (IntKind.wrap .i64 ((c.getD a.toNat (0:Int))*f)) (1000000000:Int)))+(1:Int)))+(1:Int)),i,())else none else none else if decide ((0:Int)≤(IntKind.wrap .i64 (e+a)))then if decide ((IntKind.wrap .i64 (e+a))<(d.length:Int))then g2 (IntKind.wrap .i64 (a+(1:Int)),b,c,d.set ((0:Nat)+(Int.toNat (IntKind.wrap .i64 (e+a)))) (IntKind.wrap .i64 ((IntKind.wrap .i64 ((IntKind.wrap .i64 ((d.getD ((0:Nat)+(Int.toNat (IntKind.wrap .i64 (e+a)))) (0:Int)) - (Int.tmod (IntKind.wrap .i64 ((c.getD a.toNat (0:Int))*f)) (1000000000:Int)))) - h))+(1000000000:Int))),e,f,IntKind.wrap .i64 ((IntKind.wrap .i64 (Int.tdiv (IntKind.wrap .i64 ((c.getD a.toNat (0:Int))*f)) (1000000000:Int)))+(1:Int)),i,())else none else none else if decide ((0:Int)≤(IntKind.wrap .i64 (e+a)))then if decide ((IntKind.wrap .i64 (e+a))<(d.length:Int))then g2 (IntKind.wrap .i64 (a+(1:Int)),b,c,d.set ((0:Nat)+(Int.toNat (IntKind.wrap .i64 (e+a)))) (IntKind.wrap .i64 ((IntKind.wrap .i64 ((d.getD ((0:Nat)+(Int.toNat (IntKind.wrap .i64 (e+a)))) (0:Int)) - (Int.tmod (IntKind.wrap .i64 ((c.getD a.toNat (0:Int))*f)) (1000000000:Int)))) - h)),e,f,IntKind.wrap .i64 (Int.tdiv (IntKind.wrap .i64 ((c.getD a.toNat (0:Int))*f)) (1000000000:Int)),i,())else none else none else none else none else none else none else if decide ((0:Int)≤(IntKind.wrap .i64 (e+(i.length:Int))))then if decide ((IntKind.wrap .i64 (e+(i.length:Int)))<(d.length:Int))then if decide ((0:Int)≤(IntKind.wrap .i64 (e+(i.length:Int))))then if decide ((IntKind.wrap .i64 (e+(i.length:Int)))<(d.length:Int))then if decide ((0:Int)≤(IntKind.wrap .i64 (e+(i.length:Int))))then if decide ((IntKind.wrap .i64 (e+(i.length:Int)))<(List.length (d.set ((0:Nat)+(Int.toNat (IntKind.wrap .i64 (e+(i.length:Int))))) (IntKind.wrap .i64 ((d.getD ((0:Nat)+(Int.toNat (IntKind.wrap .i64 (e+(i.length:Int))))) (0:Int)) - h))):Int))then some (decide ((List.getD (d.set ((0:Nat)+(Int.toNat (IntKind.wrap .i64 (e+(i.length:Int))))) (IntKind.wrap .i64 ((d.getD ((0:Nat)+(Int.toNat (IntKind.wrap .i64 (e+(i.length:Int))))) (0:Int)) - h))) ((0:Nat)+(Int.toNat (IntKind.wrap .i64 (e+(i.length:Int))))) (0:Int))<(0:Int)),d.set ((0:Nat)+(Int.toNat (IntKind.wrap .i64 (e+(i.length:Int))))) (IntKind.wrap .i64 ((d.getD ((0:Nat)+(Int.toNat (IntKind.wrap .i64 (e+(i.length:Int))))) (0:Int)) - h)),())else none else none else none else none else none else none) x1.1 x1.2.1 x1.2.2.2.2.1 x1.2.2.2.2.2.1 x1.2.2.2.2.2.2.1 x1.2.2.1 x1.2.2.2.1 x1.2.2.2.2.2.2.2.1
def P.b4u (k:Nat) (x:List Int×List Int×Int×Int×Unit):Option (Bool×List Int×Unit):=
 loopP P.a9d k ((0:Int),(x.2.1.length:Int),x.2.1,x.1,x.2.2.1,x.2.2.2.1,(0:Int),x.2.1,())
def S.a4x (x:((List Int)×((List Int)×(Int×(Int×Unit))))):(Option (Bool×((List Int)×Unit))):=
 if 0≤x.2.2.1∧x.2.2.1.toNat+x.2.1.length<x.1.length∧dig B10 ((x.1.drop x.2.2.1.toNat).take x.2.1.length)=true∧dig B10 x.2.1=true∧0≤x.1.getD (x.2.2.1.toNat+x.2.1.length) 0∧x.1.getD (x.2.2.1.toNat+x.2.1.length) 0≤1000000000∧0≤x.2.2.2.1∧x.2.2.2.1<1000000000∧x.1.length≤1000000000000 then
  let T:Int:=((a0b B10 ((x.1.drop x.2.2.1.toNat).take x.2.1.length):Nat):Int)+((B10^x.2.1.length:Nat):Int)*x.1.getD (x.2.2.1.toNat+x.2.1.length) 0 - ((a0b B10 x.2.1*x.2.2.2.1.toNat:Nat):Int)
  some (decide (T/((B10^x.2.1.length:Nat):Int)<0),(x.1.take x.2.2.1.toNat++fd B10 x.2.1.length (T%((B10^x.2.1.length:Nat):Int)).toNat)++(T/((B10^x.2.1.length:Nat):Int))::x.1.drop (x.2.2.1.toNat+x.2.1.length+1),())
 else none
theorem takeOff_main (us vs W:List Int) (j t:Nat) (hW:(us.drop j).take vs.length=W) (hl:j+vs.length<us.length) (hw:dig B10 W=true) (hv:dig B10 vs=true) (ht0:0≤us.getD (j+vs.length) 0) (ht1:us.getD (j+vs.length) 0≤1000000000) (hd1:(t:Int)<1000000000) (hbig:us.length≤1000000000000):
  P.b4u (vs.length+1) (us,(vs,((j:Int),((t:Int),()))))=some (decide (((((a0b B10 W:Nat):Int)+((B10^vs.length:Nat):Int)*us.getD (j+vs.length) 0 - ((a0b B10 vs*t:Nat):Int))/((B10^vs.length:Nat):Int))<0),(us.take j++fd B10 vs.length ((((a0b B10 W:Nat):Int)+((B10^vs.length:Nat):Int)*us.getD (j+vs.length) 0 - ((a0b B10 vs*t:Nat):Int))%((B10^vs.length:Nat):Int)).toNat)++((((a0b B10 W:Nat):Int)+((B10^vs.length:Nat):Int)*us.getD (j+vs.length) 0 - ((a0b B10 vs*t:Nat):Int))/((B10^vs.length:Nat):Int))::us.drop (j+vs.length+1),()):=by
 have hWg:∀i,i<vs.length→W.getD i 0=us.getD (j+i) 0:=by
  intro i hi;rw[←hW,win_getD hi]
 have hWl:W.length=vs.length:=by rw[←hW];simp;omega
 have htB:t<B10:=by show t<1000000000;omega
 unfold P.b4u;dsimp only;have key:=a0h (k:=vs.length+1) (b:=P.a9d) (n:=vs.length) (st:=fun i=>((i:Int),(vs.length:Int),vs,(us.take j++(b7i B10 t W vs i).1)++us.drop (j+i),(j:Int),(t:Int),((b7i B10 t W vs i).2:Int),vs,())) (F:=fun i=>some (decide (((((a0b B10 W:Nat):Int)+((B10^vs.length:Nat):Int)*us.getD (j+vs.length) 0 - ((a0b B10 vs*t:Nat):Int))/((B10^vs.length:Nat):Int))<0),(us.take j++fd B10 vs.length ((((a0b B10 W:Nat):Int)+((B10^vs.length:Nat):Int)*us.getD (j+vs.length) 0 - ((a0b B10 vs*t:Nat):Int))%((B10^vs.length:Nat):Int)).toNat)++((((a0b B10 W:Nat):Int)+((B10^vs.length:Nat):Int)*us.getD (j+vs.length) 0 - ((a0b B10 vs*t:Nat):Int))/((B10^vs.length:Nat):Int))::us.drop (j+vs.length+1),())) (fun i g hi hg=>by
  unfold P.a9d;dsimp only at hg ⊢;refine Eq.trans ?_ hg;clear hg;obtain⟨q1,q2,q3,q4⟩:=offUp_ok (t:=t) a0d htB hw hv i;have gx:=a0z (B:=B10) (by decide) hw i;have gy:=a0z (B:=B10) (by decide) hv i;have gx1:W.getD i 0<1000000000:=gx.2;have gy1:vs.getD i 0<1000000000:=gy.2;have gx0:=gx.1;have gy0:=gy.1;have hAl:(us.take j++(b7i B10 t W vs i).1).length=j+i:=by rw[List.length_append,q2,List.length_take];omega
  have hlen:((us.take j++(b7i B10 t W vs i).1)++us.drop (j+i)).length=us.length:=by rw[List.length_append,hAl,List.length_drop];omega
  have e1:(i:Int)<(vs.length:Int):=by omega
  have e2:(0:Int)≤(i:Int):=by omega
  have e3:(0:Int)≤((j+i:Nat):Int):=by omega
  have e4:((j+i:Nat):Int)<(us.length:Int):=by omega
  rw[hlen,←Int.natCast_add,wr (x:=((j+i:Nat):Int)) (by omega) (by omega)];simp only[e1,e2,e3,e4,decide_true,if_true,Nat.zero_add,Int.toNat_natCast];rw[a2w (xs:=us) (i:=j+i) (by omega),b0t hAl];simp only[b2m hAl];rw[←hWg i hi,b7i];dsimp only;generalize W.getD i 0=x at*;generalize vs.getD i 0=y at*;generalize b7i B10 t W vs i=p at*;obtain⟨pl,c0⟩:=p;dsimp only at*;obtain⟨Y,rfl⟩:∃Y:Nat,y=(Y:Int):=⟨y.toNat,by omega⟩
  rw[Int.toNat_natCast];have hYt:Y*t≤999999999*999999999:=Nat.mul_le_mul (by omega) (by omega);rw[←Int.natCast_mul,wr (x:=((Y*t:Nat):Int)) (by omega) (by omega),Int.tmod_eq_emod_of_nonneg (by omega),Int.tdiv_eq_ediv_of_nonneg (by omega)];generalize Y*t=m at*;have e8:((m:Nat):Int)%1000000000=((m%B10:Nat):Int):=by
   show _=((m%1000000000:Nat):Int)
   omega
  have e9:((m:Nat):Int)/1000000000=((m/B10:Nat):Int):=by
   show _=((m/1000000000:Nat):Int)
   omega
  rw[e8,e9];have b1:m%B10<1000000000:=Nat.mod_lt _ (by decide);have b2:m/B10≤1000000000:=by
   show m/1000000000≤1000000000;omega
  generalize m%B10=lo at*;generalize m/B10=hi' at*;rw[wr (x:=x - (lo:Int)) (by omega) (by omega),wr (x:=x - (lo:Int) - (c0:Int)) (by omega) (by omega),wr (x:=x - (lo:Int) - (c0:Int)+1000000000) (by omega) (by omega),wr (x:=x - (lo:Int) - (c0:Int)+1000000000+1000000000) (by omega) (by omega),wr (x:=(hi':Int)) (by omega) (by omega),wr (x:=(hi':Int)+1) (by omega) (by omega),wr (x:=(hi':Int)+1+1) (by omega) (by omega),wr (x:=(i:Int)+1) (by omega) (by omega)];have eB:((B10:Nat):Int)=1000000000:=rfl;rw[eB,←Nat.add_assoc j i 1,←List.append_assoc (us.take j)]
  by_cases hn:x - (lo:Int) - (c0:Int)<0
  ·rw[if_pos (decide_eq_true hn),if_pos hn]
   by_cases hn2:x - (lo:Int) - (c0:Int)+1000000000<0
   ·rw[if_pos (decide_eq_true hn2),if_pos hn2,show x - (lo:Int) - (c0:Int)+1000000000+1000000000=(x - (lo:Int) - (c0:Int))%1000000000 by omega];rfl
   ·rw[if_neg (by simpa using hn2),if_neg hn2,show x - (lo:Int) - (c0:Int)+1000000000=(x - (lo:Int) - (c0:Int))%1000000000 by omega];rfl
  ·rw[if_neg (by simpa using hn),if_neg hn];have e11:(x - (lo:Int) - (c0:Int))%1000000000=x - (lo:Int) - (c0:Int):=by omega
   rw[e11];rfl) (fun g=>by
  unfold P.a9d;dsimp only;obtain⟨q1,q2,q3,q4⟩:=offUp_ok (t:=t) a0d htB hw hv vs.length;rw[List.take_length,←hWl,List.take_length,hWl]at q3;have hAl:(us.take j++(b7i B10 t W vs vs.length).1).length=j+vs.length:=by rw[List.length_append,q2,List.length_take];omega
  have hlen:((us.take j++(b7i B10 t W vs vs.length).1)++us.drop (j+vs.length)).length=us.length:=by rw[List.length_append,hAl,List.length_drop];omega
  have e3:(0:Int)≤((j+vs.length:Nat):Int):=by omega
  have e4:((j+vs.length:Nat):Int)<(us.length:Int):=by omega
  have e5:¬((vs.length:Int)<(vs.length:Int)):=by omega
  rw[←Int.natCast_add,wr (x:=((j+vs.length:Nat):Int)) (by omega) (by omega)];simp only[e3,e4,e5,decide_true,decide_false,if_true,Nat.zero_add,Int.toNat_natCast,List.length_set,hlen,Bool.false_eq_true,if_false];rw[a2w (xs:=us) (i:=j+vs.length) (by omega),b0t hAl,b2m hAl,List.append_assoc _ [_],List.singleton_append,b0t hAl];generalize b7i B10 t W vs vs.length=p at*;obtain⟨pl,c0⟩:=p;dsimp only at*;generalize us.getD (j+vs.length) 0=top at*;rw[wr (x:=top - (c0:Int)) (by omega) (by omega)];have hlt:=a1l q1;rw[q2]at hlt;have eT:((a0b B10 W:Nat):Int)+((B10^vs.length:Nat):Int)*top - ((a0b B10 vs*t:Nat):Int)=((a0b B10 pl:Nat):Int)+((B10^vs.length:Nat):Int)*(top - (c0:Int)):=by
   rw[Int.mul_sub,←Int.natCast_mul];omega
  rw[eT,(b1i hlt _).1,(b1i hlt _).2,Int.toNat_natCast,←fd_eq a0d q1 q2 rfl]) (by omega)
 have e0:(us.take j++(b7i B10 t W vs 0).1)++us.drop (j+0)=us:=by
  show(us.take j++[])++us.drop j=us;rw[List.append_nil,List.take_append_drop]
 rw[e0]at key;exact key
theorem S.c9h (x r) (h:S.a4x x=some r):∃k,P.b4u k x=some r:=by
 obtain⟨us,vs,j',d',u⟩:=x;unfold S.a4x at h;dsimp only at h;split at h
 case isFalse=>cases h
 rename_i hc;obtain⟨hj0,hl,hw,hv,ht0,ht1,hd0,hd1,hbig⟩:=hc;obtain⟨j,rfl⟩:∃d:Nat,j'=(d:Int):=⟨j'.toNat,by omega⟩
 obtain⟨t,rfl⟩:∃d:Nat,d'=(d:Int):=⟨d'.toNat,by omega⟩
 refine⟨vs.length+1,?_⟩;rw[←h];exact takeOff_main us vs _ j t rfl hl hw hv ht0 ht1 hd1 hbig
abbrev P.a9e (x1:Int×Int×List Int×List Int×Int×Int×List Int×Unit) (g2:Int×Int×List Int×List Int×Int×Int×List Int×Unit→Option (Unit×List Int×Unit)):Option (Unit×List Int×Unit):=
 (fun(a b e f:Int) (c d h:List Int)=>if decide (a<b)then if decide ((0:Int)≤a)then if decide (a<(c.length:Int))then if decide ((0:Int)≤(IntKind.wrap .i64 (e+a)))then if decide ((IntKind.wrap .i64 (e+a))<(d.length:Int))then if decide ((0:Int)≤(IntKind.wrap .i64 (e+a)))then if decide ((IntKind.wrap .i64 (e+a))<(d.length:Int))then g2 (IntKind.wrap .i64 (a+(1:Int)),b,c,d.set ((0:Nat)+(Int.toNat (IntKind.wrap .i64 (e+a)))) (Int.tmod (IntKind.wrap .i64 ((IntKind.wrap .i64 ((d.getD ((0:Nat)+(Int.toNat (IntKind.wrap .i64 (e+a)))) (0:Int))+(c.getD a.toNat (0:Int))))+f)) (1000000000:Int)),e,IntKind.wrap .i64 (Int.tdiv (IntKind.wrap .i64 ((IntKind.wrap .i64 ((d.getD ((0:Nat)+(Int.toNat (IntKind.wrap .i64 (e+a)))) (0:Int))+(c.getD a.toNat (0:Int))))+f)) (1000000000:Int)),h,())else none else none else none else none else none else none else if decide ((0:Int)≤(IntKind.wrap .i64 (e+(h.length:Int))))then if decide ((IntKind.wrap .i64 (e+(h.length:Int)))<(d.length:Int))then if decide ((0:Int)≤(IntKind.wrap .i64 (e+(h.length:Int))))then if decide ((IntKind.wrap .i64 (e+(h.length:Int)))<(d.length:Int))then some ((),d.set ((0:Nat)+(Int.toNat (IntKind.wrap .i64 (e+(h.length:Int))))) (IntKind.wrap .i64 ((d.getD ((0:Nat)+(Int.toNat (IntKind.wrap .i64 (e+(h.length:Int))))) (0:Int))+f)),())else none else none else none else none) x1.1 x1.2.1 x1.2.2.2.2.1 x1.2.2.2.2.2.1 x1.2.2.1 x1.2.2.2.1 x1.2.2.2.2.2.2.1
def P.b4v (k:Nat) (x:List Int×List Int×Int×Unit):Option (Unit×List Int×Unit):=
 loopP P.a9e k ((0:Int),(x.2.1.length:Int),x.2.1,x.1,x.2.2.1,(0:Int),x.2.1,())
def S.a4y (x:((List Int)×((List Int)×(Int×Unit)))):(Option (Unit×((List Int)×Unit))):=
 if 0≤x.2.2.1∧x.2.2.1.toNat+x.2.1.length<x.1.length∧dig B10 ((x.1.drop x.2.2.1.toNat).take x.2.1.length)=true∧dig B10 x.2.1=true∧ -1000000000≤x.1.getD (x.2.2.1.toNat+x.2.1.length) 0∧x.1.getD (x.2.2.1.toNat+x.2.1.length) 0≤1000000000∧x.1.length≤1000000000000 then
  let T:Int:=((a0b B10 ((x.1.drop x.2.2.1.toNat).take x.2.1.length):Nat):Int)+((B10^x.2.1.length:Nat):Int)*x.1.getD (x.2.2.1.toNat+x.2.1.length) 0+((a0b B10 x.2.1:Nat):Int)
  some ((),(x.1.take x.2.2.1.toNat++fd B10 x.2.1.length (T%((B10^x.2.1.length:Nat):Int)).toNat)++(T/((B10^x.2.1.length:Nat):Int))::x.1.drop (x.2.2.1.toNat+x.2.1.length+1),())
 else none
theorem putBack_main (us vs W:List Int) (j:Nat) (hW:(us.drop j).take vs.length=W) (hl:j+vs.length<us.length) (hw:dig B10 W=true) (hv:dig B10 vs=true) (ht0: -1000000000≤us.getD (j+vs.length) 0) (ht1:us.getD (j+vs.length) 0≤1000000000) (hbig:us.length≤1000000000000):
  P.b4v (vs.length+1) (us,(vs,((j:Int),())))=some ((),(us.take j++fd B10 vs.length ((((a0b B10 W:Nat):Int)+((B10^vs.length:Nat):Int)*us.getD (j+vs.length) 0+((a0b B10 vs:Nat):Int))%((B10^vs.length:Nat):Int)).toNat)++((((a0b B10 W:Nat):Int)+((B10^vs.length:Nat):Int)*us.getD (j+vs.length) 0+((a0b B10 vs:Nat):Int))/((B10^vs.length:Nat):Int))::us.drop (j+vs.length+1),()):=by
 have hWg:∀i,i<vs.length→W.getD i 0=us.getD (j+i) 0:=by
  intro i hi;rw[←hW,win_getD hi]
 have hWl:W.length=vs.length:=by rw[←hW];simp;omega
 unfold P.b4v;dsimp only;have key:=a0h (k:=vs.length+1) (b:=P.a9e) (n:=vs.length) (st:=fun i=>((i:Int),(vs.length:Int),vs,(us.take j++(a1d B10 W vs i).1)++us.drop (j+i),(j:Int),((a1d B10 W vs i).2:Int),vs,())) (F:=fun i=>some ((),(us.take j++fd B10 vs.length ((((a0b B10 W:Nat):Int)+((B10^vs.length:Nat):Int)*us.getD (j+vs.length) 0+((a0b B10 vs:Nat):Int))%((B10^vs.length:Nat):Int)).toNat)++((((a0b B10 W:Nat):Int)+((B10^vs.length:Nat):Int)*us.getD (j+vs.length) 0+((a0b B10 vs:Nat):Int))/((B10^vs.length:Nat):Int))::us.drop (j+vs.length+1),())) (fun i g hi hg=>by
  unfold P.a9e;dsimp only at hg ⊢;refine Eq.trans ?_ hg;clear hg;obtain⟨q1,q2,q3,q4⟩:=b3a a0d hw hv i;have gx:=a0z (B:=B10) (by decide) hw i;have gy:=a0z (B:=B10) (by decide) hv i;have gx1:W.getD i 0<1000000000:=gx.2;have gy1:vs.getD i 0<1000000000:=gy.2;have gx0:=gx.1;have gy0:=gy.1;have hAl:(us.take j++(a1d B10 W vs i).1).length=j+i:=by rw[List.length_append,q2,List.length_take];omega
  have hlen:((us.take j++(a1d B10 W vs i).1)++us.drop (j+i)).length=us.length:=by rw[List.length_append,hAl,List.length_drop];omega
  have e1:(i:Int)<(vs.length:Int):=by omega
  have e2:(0:Int)≤(i:Int):=by omega
  have e3:(0:Int)≤((j+i:Nat):Int):=by omega
  have e4:((j+i:Nat):Int)<(us.length:Int):=by omega
  rw[hlen,←Int.natCast_add,wr (x:=((j+i:Nat):Int)) (by omega) (by omega)];simp only[e1,e2,e3,e4,decide_true,if_true,Nat.zero_add,Int.toNat_natCast];rw[a2w (xs:=us) (i:=j+i) (by omega),b0t hAl];simp only[b2m hAl];rw[←hWg i hi,a1d];dsimp only;generalize W.getD i 0=x at*;generalize vs.getD i 0=y at*;generalize a1d B10 W vs i=p at*;obtain⟨pl,c0⟩:=p;dsimp only at*;obtain⟨X,rfl⟩:∃Y:Nat,x=(Y:Int):=⟨x.toNat,by omega⟩
  obtain⟨Y,rfl⟩:∃Y:Nat,y=(Y:Int):=⟨y.toNat,by omega⟩
  rw[Int.toNat_natCast,Int.toNat_natCast];rw[wr (x:=(X:Int)+(Y:Int)) (by omega) (by omega),wr (x:=(X:Int)+(Y:Int)+(c0:Int)) (by omega) (by omega),Int.tmod_eq_emod_of_nonneg (by omega),Int.tdiv_eq_ediv_of_nonneg (by omega)];have e8:((X:Int)+(Y:Int)+(c0:Int))%1000000000=(((c0+X+Y)%B10:Nat):Int):=by
   show _=(((c0+X+Y)%1000000000:Nat):Int)
   omega
  have e9:((X:Int)+(Y:Int)+(c0:Int))/1000000000=(((c0+X+Y)/B10:Nat):Int):=by
   show _=(((c0+X+Y)/1000000000:Nat):Int)
   omega
  have b2:(c0+X+Y)/B10≤1000000000:=by
   show(c0+X+Y)/1000000000≤1000000000;omega
  rw[e8,e9,wr (x:=(((c0+X+Y)/B10:Nat):Int)) (by omega) (by omega),wr (x:=(i:Int)+1) (by omega) (by omega),←Nat.add_assoc j i 1,←List.append_assoc (us.take j)];rfl) (fun g=>by
  unfold P.a9e;dsimp only;obtain⟨q1,q2,q3,q4⟩:=b3a a0d hw hv vs.length;rw[List.take_length,←hWl,List.take_length,hWl]at q3;have hAl:(us.take j++(a1d B10 W vs vs.length).1).length=j+vs.length:=by rw[List.length_append,q2,List.length_take];omega
  have hlen:((us.take j++(a1d B10 W vs vs.length).1)++us.drop (j+vs.length)).length=us.length:=by rw[List.length_append,hAl,List.length_drop];omega
  have e3:(0:Int)≤((j+vs.length:Nat):Int):=by omega
  have e4:((j+vs.length:Nat):Int)<(us.length:Int):=by omega
  have e5:¬((vs.length:Int)<(vs.length:Int)):=by omega
  rw[←Int.natCast_add,wr (x:=((j+vs.length:Nat):Int)) (by omega) (by omega)];simp only[e3,e4,e5,decide_true,decide_false,if_true,Nat.zero_add,Int.toNat_natCast,hlen,Bool.false_eq_true,if_false];rw[a2w (xs:=us) (i:=j+vs.length) (by omega),b0t hAl,b2m hAl,List.append_assoc _ [_],List.singleton_append];generalize a1d B10 W vs vs.length=p at*;obtain⟨pl,c0⟩:=p;dsimp only at*;generalize us.getD (j+vs.length) 0=top at*;rw[wr (x:=top+(c0:Int)) (by omega) (by omega)];have hlt:=a1l q1;rw[q2]at hlt;have eT:((a0b B10 W:Nat):Int)+((B10^vs.length:Nat):Int)*top+((a0b B10 vs:Nat):Int)=((a0b B10 pl:Nat):Int)+((B10^vs.length:Nat):Int)*(top+(c0:Int)):=by
   rw[Int.mul_add,←Int.natCast_mul];omega
  rw[eT,(b1i hlt _).1,(b1i hlt _).2,Int.toNat_natCast,←fd_eq a0d q1 q2 rfl]) (by omega)
 have e0:(us.take j++(a1d B10 W vs 0).1)++us.drop (j+0)=us:=by
  show(us.take j++[])++us.drop j=us;rw[List.append_nil,List.take_append_drop]
 rw[e0]at key;exact key
theorem S.c9i (x r) (h:S.a4y x=some r):∃k,P.b4v k x=some r:=by
 obtain⟨us,vs,j',u⟩:=x;unfold S.a4y at h;dsimp only at h;split at h
 case isFalse=>cases h
 rename_i hc;obtain⟨hj0,hl,hw,hv,ht0,ht1,hbig⟩:=hc;obtain⟨j,rfl⟩:∃d:Nat,j'=(d:Int):=⟨j'.toNat,by omega⟩
 refine⟨vs.length+1,?_⟩;rw[←h];exact putBack_main us vs _ j rfl hl hw hv ht0 ht1 hbig
end Go.Cm
end
