import Derived.Test.YtlnejaehiangnaaGreatDoorCmQp
set_option linter.unusedVariables false
namespace Go.Cm
def sgZ (neg:Bool) (p:Nat):Int:=if neg=true then -(p:Int)else p
def qv (r:Q3):Rat:=mkRat (sgZ r.1 r.2.1) r.2.2
theorem sgZ_mul (neg:Bool) (p k:Nat):sgZ neg p*(k:Int)=sgZ neg (p*k):=by
 unfold sgZ
 cases neg
 ·simp
 ·simp [Int.neg_mul]
theorem sgZ_zero (neg:Bool):sgZ neg 0=0:=by cases neg<;>rfl
theorem qv_lowN (neg:Bool) {p q:Nat} (hq:0<q):qv (lowN neg p q)=mkRat (sgZ neg p) q:=by
 have h1:=lowN_val neg (p:=p) hq
 have h2:=(lowN_low neg (p:=p) hq).1
 unfold qv
 rw[Rat.mkRat_eq_iff (by omega) (by omega)]
 have hs:(lowN neg p q).1=(neg&&decide (p≠0)):=rfl
 rw[sgZ_mul,h1,hs]
 by_cases hp:p=0
 ·subst hp
  rw[Nat.zero_mul,sgZ_zero,sgZ_zero,Int.zero_mul]
 ·rw[decide_eq_true hp,Bool.and_true,←sgZ_mul]
theorem qv_low {r:Q3} (h:low r):(qv r).num=sgZ r.1 r.2.1∧(qv r).den=r.2.2:=by
 have hc:Nat.Coprime (sgZ r.1 r.2.1).natAbs r.2.2:=by
  have:(sgZ r.1 r.2.1).natAbs=r.2.1:=by unfold sgZ;split<;>omega
  rw[this]
  exact h.2.2
 have hz:r.2.2≠0:=by have:=h.1;omega
 have e:qv r=⟨sgZ r.1 r.2.1,r.2.2,hz,hc⟩:=(Rat.mk_eq_mkRat _ _ hz hc).symm
 rw[e]
 exact⟨rfl,rfl⟩
theorem qv_inj {x y:Q3} (hx:low x) (hy:low y) (h:qv x=qv y):x=y:=by
 obtain⟨a1,a2⟩:=qv_low hx
 obtain⟨b1,b2⟩:=qv_low hy
 rw[h,b1]at a1
 rw[h,b2]at a2
 obtain⟨n1,p1,q1⟩:=x
 obtain⟨n2,p2,q2⟩:=y
 obtain⟨_,h1,_⟩:=hx
 obtain⟨_,h2,_⟩:=hy
 dsimp only at*
 subst a2
 unfold sgZ at a1
 cases n1<;>cases n2
 ·simp at a1
  rw[Int.ofNat.inj a1]
 ·have:=h2 rfl
  simp at a1
  omega
 ·have:=h1 rfl
  simp at a1
  omega
 ·simp at a1
  rw[Int.ofNat.inj a1]
theorem qv_iff {x y:Q3} (hx:low x) (hy:low y):qv x=qv y↔x=y:=⟨qv_inj hx hy,fun h=>by rw[h]⟩
theorem qv_add {x y:Q3} (hx:low x) (hy:low y):qv (addQ x y)=qv x+qv y:=by
 have hq:0<x.2.2*y.2.2:=Nat.mul_pos hx.1 hy.1
 have h1:x.2.2≠0:=by have:=hx.1;omega
 have h2:y.2.2≠0:=by have:=hy.1;omega
 show _=mkRat _ _+mkRat _ _
 rw[Rat.mkRat_add_mkRat _ _ h1 h2,sgZ_mul,sgZ_mul]
 unfold addQ
 split
 ·rename_i he
  rw[qv_lowN _ hq,←he]
  congr 1
  unfold sgZ
  split<;>omega
 ·rename_i he
  split
  ·rename_i hle
   rw[qv_lowN _ hq]
   congr 1
   unfold sgZ
   cases hx1:x.1<;>cases hy1:y.1
   ·rw[hx1,hy1]at he;exact absurd rfl he
   ·simp;omega
   ·simp;omega
   ·rw[hx1,hy1]at he;exact absurd rfl he
  ·rename_i hle
   rw[qv_lowN _ hq]
   congr 1
   unfold sgZ
   cases hx1:x.1<;>cases hy1:y.1
   ·rw[hx1,hy1]at he;exact absurd rfl he
   ·simp;omega
   ·simp;omega
   ·rw[hx1,hy1]at he;exact absurd rfl he
theorem sgZ_xor (a b:Bool) (p q:Nat):sgZ (a != b) (p*q)=sgZ a p*sgZ b q:=by
 unfold sgZ
 cases a<;>cases b<;>simp [Int.neg_mul,Int.mul_neg]
theorem qv_mul {x y:Q3} (hx:low x) (hy:low y):qv (mulQ x y)=qv x*qv y:=by
 have hq:0<x.2.2*y.2.2:=Nat.mul_pos hx.1 hy.1
 show _=mkRat _ _*mkRat _ _
 rw[Rat.mkRat_mul_mkRat]
 unfold mulQ
 rw[qv_lowN _ hq,sgZ_xor]
theorem qv_zero_iff {y:Q3} (hy:low y):qv y=0↔y.2.1=0:=by
 have h2:y.2.2≠0:=by have:=hy.1;omega
 unfold qv
 rw[Rat.mkRat_eq_zero h2]
 unfold sgZ
 split<;>omega
theorem qv_over {x y:Q3} (hx:low x) (hy:low y) (h0:y.2.1≠0):qv (overQ x y)=qv x/qv y:=by
 have hq:0<x.2.2*y.2.1:=Nat.mul_pos hx.1 (by omega)
 have hne:qv y≠0:=fun e=>h0 ((qv_zero_iff hy).1 e)
 have key:qv (overQ x y)*qv y=qv x:=by
  show qv (lowN _ _ _)*mkRat _ _=mkRat _ _
  rw[qv_lowN _ hq,Rat.mkRat_mul_mkRat,Rat.mkRat_eq_iff (Nat.mul_ne_zero (by omega) (by have:=hy.1;omega)) (by have:=hx.1;omega),sgZ_xor]
  unfold sgZ
  cases x.1<;>cases y.1<;>simp [Int.neg_mul,Int.mul_neg]<;>ac_rfl
 rw[←key,Rat.mul_div_cancel hne]
theorem qv_opp {x:Q3} (hx:low x):qv (oppQ x)= -qv x:=by
 unfold qv oppQ
 rw[Rat.neg_mkRat]
 congr 1
 unfold sgZ
 by_cases hp:x.2.1=0
 ·rw[hp]
  cases x.1<;>rfl
 ·cases x.1<;>simp [hp]
theorem qv_zeroQ:qv zeroQ=0:=by rfl
theorem qv_oneQ:qv oneQ=1:=by rfl
theorem qv_whole (n:Int):qv (wholeQ n)=(n:Rat):=by
 unfold qv wholeQ
 dsimp only
 rw[Rat.mkRat_eq_div]
 have:sgZ (decide (n<0)) n.natAbs=n:=by
  unfold sgZ
  by_cases h:n<0
  ·rw[if_pos (by simpa using h)];omega
  ·rw[if_neg (by simpa using h)];omega
 rw[this]
 show(n:Rat)/((1:Nat):Rat)=n
 rw[show((1:Nat):Rat)=1 from rfl]
 grind
theorem cmpQ_lt {x y:Q3} (hx:low x) (hy:low y):(cmpQ x y<0↔qv x<qv y)∧(cmpQ x y=0↔qv x=qv y):=by
 obtain⟨a1,a2⟩:=qv_low hx
 obtain⟨b1,b2⟩:=qv_low hy
 have e0:∀a b:Nat,(cmpN a b<0↔a<b)∧(cmpN a b=0↔a=b):=fun a b=>by
  unfold cmpN
  split
  ·constructor<;>constructor<;>intros<;>omega
  ·split
   ·constructor<;>constructor<;>intros<;>omega
   ·constructor<;>constructor<;>intros<;>omega
 rw[Rat.lt_iff,Rat.eq_iff_mul_eq_mul,a1,a2,b1,b2,sgZ_mul,sgZ_mul]
 have hx0:=hx.2.1
 have hy0:=hy.2.1
 have p1:=hx.1
 have p2:=hy.1
 unfold cmpQ sgZ
 have f:=e0 (x.2.1*y.2.2) (y.2.1*x.2.2)
 have g:=cmpN_swap (x.2.1*y.2.2) (y.2.1*x.2.2)
 have gt:cmpN (x.2.1*y.2.2) (y.2.1*x.2.2)>0↔y.2.1*x.2.2<x.2.1*y.2.2:=cmpN_gt
 cases hx1:x.1<;>cases hy1:y.1
 ·simp only[if_true,Bool.false_eq_true,if_false]
  constructor<;>constructor<;>intros<;>omega
 ·have k1:=hy0 hy1
  have:0<y.2.1*x.2.2:=Nat.mul_pos (by omega) p1
  simp only[Bool.false_eq_true,if_false,if_true]
  constructor<;>constructor<;>intros<;>omega
 ·have k1:=hx0 hx1
  have:0<x.2.1*y.2.2:=Nat.mul_pos (by omega) p2
  simp only[if_true,Bool.true_eq_false,Bool.false_eq_true,if_false]
  constructor<;>constructor<;>intros<;>omega
 ·simp only[if_true]
  constructor<;>constructor<;>intros<;>omega
theorem qv_neg_iff {x:Q3} (hx:low x):x.1=true↔qv x<0:=by
 obtain⟨a1,a2⟩:=qv_low hx
 have h0:=hx.2.1
 rw[Rat.lt_iff,a1,a2]
 show _↔sgZ x.1 x.2.1*((1:Nat):Int)<0*_
 rw[sgZ_mul,Int.zero_mul]
 unfold sgZ
 cases hx1:x.1
 ·simp
 ·have:=h0 hx1
  simp
  omega
def posQ (x:Q3):Bool:= !x.1&&decide (x.2.1≠0)
theorem posQ_iff {x:Q3} (hx:low x):posQ x=true↔0<qv x:=by
 have h1:=qv_neg_iff hx
 have h2:=qv_zero_iff hx
 unfold posQ
 rw[Bool.and_eq_true,Bool.not_eq_true',decide_eq_true_iff]
 constructor
 ·rintro ⟨e1,e2⟩
  have e3:¬qv x<0:=fun h=>by rw[h1.2 h]at e1;cases e1
  have e4:qv x≠0:=fun h=>e2 (h2.1 h)
  grind
 ·intro h
  refine⟨?_,fun e=> ?_⟩
  ·cases hx1:x.1
   ·rfl
   ·have:=h1.1 hx1
    grind
  ·have:=h2.2 e
   grind
theorem sumQ_qv (xs:List Q3) (h:∀r∈xs,low r):qv (sumQ xs)=(xs.map qv).foldl (·+ ·) 0:=by
 unfold sumQ
 have:∀(xs:List Q3) (a:Q3),low a→(∀r∈xs,low r)→qv (xs.foldl addQ a)=(xs.map qv).foldl (·+ ·) (qv a):=by
  intro xs
  induction xs with
  |nil=>intro a _ _;rfl
  |cons x xs ih=>
   intro a ha hs
   have hx:=hs x (by simp)
   rw[List.foldl_cons,ih _ (addQ_low _ _ ha hx) (fun r hr=>hs r (by simp [hr])),qv_add ha hx]
   rfl
 exact this xs zeroQ zeroQ_low h
end Go.Cm
