import Derived.Test.YtlnejaehiangnaaGreatDoorCmQr
set_option linter.unusedVariables false
namespace Go.Cm
def lossQ (x:Q3):Nat→Q3
 |0=>oneQ
 |n+1=>overQ (mulQ x (lossQ x n)) (addQ (mulQ x (lossQ x n)) (wholeQ ((n+1:Nat):Int)))
def lossN (x:Q3):Nat→Nat×Nat
 |0=>(1,1)
 |n+1=>(x.2.1*(lossN x n).1,(n+1)*x.2.2*(lossN x n).2+x.2.1*(lossN x n).1)
theorem lossN_pos {x:Q3} (hx:low x) (hp:posQ x=true) (n:Nat):0<(lossN x n).1∧0<(lossN x n).2:=by
 have h1:0<x.2.1:=by
  unfold posQ at hp
  simp only[Bool.and_eq_true,decide_eq_true_iff]at hp
  omega
 have h2:=hx.1
 induction n with
 |zero=>exact⟨Nat.one_pos,Nat.one_pos⟩
 |succ n ih=>
  refine⟨Nat.mul_pos h1 ih.1,?_⟩
  show 0<_+x.2.1*(lossN x n).1
  have:=Nat.mul_pos h1 ih.1
  omega
theorem lossN_lt {x:Q3} (hb:below 200 x) (n:Nat) (hn:n≤90):(lossN x n).1<10^(200*n+1)∧(lossN x n).2<10^(203*n+1):=by
 induction n with
 |zero=>exact⟨show 1<10^(200*0+1) by decide,show 1<10^(203*0+1) by decide⟩
 |succ n ih=>
  obtain⟨i1,i2⟩:=ih (by omega)
  have a1:=mul_lt_pow hb.1 i1
  have a2:(n+1)*x.2.2<10^(2+200):=mul_lt_pow (show n+1<10^2 by omega) hb.2
  have a3:=mul_lt_pow a2 i2
  refine⟨?_,?_⟩
  ·show x.2.1*(lossN x n).1<_
   rw[show 200*(n+1)+1=200+(200*n+1) by omega]
   exact a1
  ·show(n+1)*x.2.2*(lossN x n).2+x.2.1*(lossN x n).1<_
   have b1:10^(200+(200*n+1))≤10^(2+200+(203*n+1)):=Nat.pow_le_pow_right (by decide) (by omega)
   have b2:10^(203*(n+1)+1)=10*10^(2+200+(203*n+1)):=by rw[show 203*(n+1)+1=(2+200+(203*n+1))+1 by omega,Nat.pow_succ,Nat.mul_comm]
   omega
theorem lossQ_low {x:Q3} (hx:low x) (hp:posQ x=true) (n:Nat):low (lossQ x n)∧0<qv (lossQ x n):=by
 have hv:=(posQ_iff hx).1 hp
 induction n with
 |zero=>
  refine⟨oneQ_low,?_⟩
  show 0<qv oneQ
  rw[qv_oneQ]
  decide
 |succ n ih=>
  have l1:=mulQ_low _ _ hx ih.1
  have l2:=addQ_low _ _ l1 (wholeQ_low ((n+1:Nat):Int))
  have v1:0<qv (mulQ x (lossQ x n)):=by
   rw[qv_mul hx ih.1]
   exact Rat.mul_pos hv ih.2
  have v2:0<qv (addQ (mulQ x (lossQ x n)) (wholeQ ((n+1:Nat):Int))):=by
   rw[qv_add l1 (wholeQ_low _),qv_whole]
   have:(0:Rat)<(((n+1:Nat):Int):Rat):=Rat.intCast_pos.2 (by omega)
   grind
  have v3:(addQ (mulQ x (lossQ x n)) (wholeQ ((n+1:Nat):Int))).2.1≠0:=fun e=>by
   have:=(qv_zero_iff l2).2 e
   grind
  refine⟨overQ_low _ _ l1 l2 v3,?_⟩
  show 0<qv (overQ _ _)
  rw[qv_over l1 l2 v3,Rat.div_def]
  exact Rat.mul_pos v1 (Rat.inv_pos.2 v2)
theorem lossQ_eq {x:Q3} (hx:low x) (hp:posQ x=true) (n:Nat):lossQ x n=lowN false (lossN x n).1 (lossN x n).2:=by
 have hv:=(posQ_iff hx).1 hp
 have hqx:qv x=(x.2.1:Rat)/(x.2.2:Rat):=by
  have:x.1=false:=by
   unfold posQ at hp
   simp only[Bool.and_eq_true,Bool.not_eq_true']at hp
   exact hp.1
  unfold qv sgZ
  rw[this,Rat.mkRat_eq_div]
  rfl
 induction n with
 |zero=>
  show oneQ=lowN false 1 1
  unfold oneQ lowN
  simp
 |succ n ih=>
  have lp:=lossN_pos hx hp n
  have lp':=lossN_pos hx hp (n+1)
  have L:=lossQ_low hx hp n
  have l1:=mulQ_low _ _ hx L.1
  have l2:=addQ_low _ _ l1 (wholeQ_low ((n+1:Nat):Int))
  have v1:0<qv (mulQ x (lossQ x n)):=by
   rw[qv_mul hx L.1]
   exact Rat.mul_pos hv L.2
  have hw:(0:Rat)<(((n+1:Nat):Int):Rat):=Rat.intCast_pos.2 (by omega)
  have v2:0<qv (addQ (mulQ x (lossQ x n)) (wholeQ ((n+1:Nat):Int))):=by
   rw[qv_add l1 (wholeQ_low _),qv_whole]
   grind
  have v3:(addQ (mulQ x (lossQ x n)) (wholeQ ((n+1:Nat):Int))).2.1≠0:=fun e=>by
   have:=(qv_zero_iff l2).2 e
   grind
  refine qv_inj (lossQ_low hx hp (n+1)).1 (lowN_low _ lp'.2) ?_
  show qv (overQ _ _)=_
  rw[qv_over l1 l2 v3,qv_add l1 (wholeQ_low _),qv_mul hx L.1,qv_whole,hqx,ih,qv_lowN _ lp.2,qv_lowN _ lp'.2]
  unfold sgZ
  rw[if_neg (by decide),if_neg (by decide),Rat.mkRat_eq_div,Rat.mkRat_eq_div]
  show _=((x.2.1*(lossN x n).1:Nat):Int)/((((n+1)*x.2.2*(lossN x n).2+x.2.1*(lossN x n).1:Nat):Nat):Rat)
  have c1:∀k:Nat,(((k:Nat):Int):Rat)=(k:Rat):=fun k=>rfl
  rw[c1,c1,c1,Rat.natCast_mul x.2.1]
  rw[show((((n+1)*x.2.2*(lossN x n).2+x.2.1*(lossN x n).1:Nat):Nat):Rat)=((n+1:Nat):Rat)*(x.2.2:Rat)*((lossN x n).2:Rat)+(x.2.1:Rat)*((lossN x n).1:Rat) by rw[Rat.natCast_add,Rat.natCast_mul ((n+1)*x.2.2),Rat.natCast_mul (n+1),Rat.natCast_mul x.2.1]]
  have p1:(0:Rat)<(x.2.2:Rat):=Rat.natCast_pos.2 hx.1
  have p2:(0:Rat)<((lossN x n).2:Rat):=Rat.natCast_pos.2 lp.2
  have p3:(0:Rat)<((lossN x n).1:Rat):=Rat.natCast_pos.2 lp.1
  have p4:(0:Rat)<(x.2.1:Rat):=Rat.natCast_pos.2 (by
   unfold posQ at hp
   simp only[Bool.and_eq_true,decide_eq_true_iff]at hp
   omega)
  have p5:(0:Rat)<((n+1:Nat):Rat):=Rat.natCast_pos.2 (by omega)
  generalize (x.2.2:Rat)=a at*
  generalize (x.2.1:Rat)=b at*
  generalize ((lossN x n).1:Rat)=c at*
  generalize ((lossN x n).2:Rat)=d at*
  generalize ((n+1:Nat):Rat)=m at*
  have q1:0<m*a*d+b*c:=by
   have:=Rat.mul_pos (Rat.mul_pos p5 p1) p2
   have:=Rat.mul_pos p4 p3
   grind
  have q2:b/a*(c/d)+m=(m*a*d+b*c)/(a*d):=by
   have h1:a≠0:=by grind
   have h2:d≠0:=by grind
   grind
  rw[q2]
  have h1:a≠0:=by grind
  have h2:d≠0:=by grind
  have h3:m*a*d+b*c≠0:=by grind
  generalize hz:m*a*d+b*c=z at*
  grind
theorem lossQ_below {x:Q3} (hx:low x) (hp:posQ x=true) (hb:below 200 x) (n:Nat) (hn:n≤90):below (203*n+1) (lossQ x n):=by
 rw[lossQ_eq hx hp n]
 obtain⟨h1,h2⟩:=lossN_lt hb n hn
 exact lowN_below _ (Nat.lt_of_lt_of_le h1 (Nat.pow_le_pow_right (by decide) (by omega))) h2
def upF (us ds:List Q3):Nat→Q3
 |0=>overQ oneQ (us.getD 0 zeroQ)
 |n+1=>overQ (addQ oneQ (mulQ (ds.getD n zeroQ) (upF us ds n))) (us.getD (n+1) zeroQ)
def dnF (us ds:List Q3):Nat→Q3
 |0=>overQ oneQ (ds.getD (ds.length - 1) zeroQ)
 |n+1=>overQ (addQ oneQ (mulQ (us.getD (ds.length - 1 - n) zeroQ) (dnF us ds n))) (ds.getD (ds.length - 2 - n) zeroQ)
def rates (qs:List Q3):Prop:=∀r∈qs,low r∧below 200 r∧posQ r=true
theorem rates_get {qs:List Q3} (h:rates qs) {i:Nat} (hi:i<qs.length):low (qs.getD i zeroQ)∧below 200 (qs.getD i zeroQ)∧(qs.getD i zeroQ).2.1≠0∧0<qv (qs.getD i zeroQ):=by
 have hm:=h _ (List.getElem_mem hi)
 rw[List.getD_eq_getElem?_getD,List.getElem?_eq_getElem hi]
 refine⟨hm.1,hm.2.1,?_,(posQ_iff hm.1).1 hm.2.2⟩
 have:=hm.2.2
 unfold posQ at this
 simp only[Bool.and_eq_true,decide_eq_true_iff]at this
 exact this.2
theorem upF_ok {us ds:List Q3} (hu:rates us) (hd:rates ds) (n:Nat) (h1:n<us.length) (h2:n≤ds.length):low (upF us ds n)∧below (403*n+201) (upF us ds n):=by
 induction n with
 |zero=>
  have g:=rates_get hu h1
  exact⟨overQ_low _ _ oneQ_low g.1 g.2.2.1,below_mono (m:=1+200) (by omega) (overQ_below (oneQ_below (by decide)) g.2.1)⟩
 |succ n ih=>
  obtain⟨i1,i2⟩:=ih (by omega) (by omega)
  have g:=rates_get hu h1
  have e:=rates_get hd (show n<ds.length by omega)
  refine⟨overQ_low _ _ (addQ_low _ _ oneQ_low (mulQ_low _ _ e.1 i1)) g.1 g.2.2.1,?_⟩
  exact below_mono (m:=1+(200+(403*n+201))+1+200) (by omega) (overQ_below (addQ_below (oneQ_below (by decide)) (mulQ_below e.2.1 i2)) g.2.1)
theorem dnF_ok {us ds:List Q3} (hu:rates us) (hd:rates ds) (hl:us.length=ds.length) (n:Nat) (h1:n<us.length):low (dnF us ds n)∧below (403*n+201) (dnF us ds n):=by
 induction n with
 |zero=>
  have g:=rates_get hd (show ds.length - 1<ds.length by omega)
  exact⟨overQ_low _ _ oneQ_low g.1 g.2.2.1,below_mono (m:=1+200) (by omega) (overQ_below (oneQ_below (by decide)) g.2.1)⟩
 |succ n ih=>
  obtain⟨i1,i2⟩:=ih (by omega)
  have g:=rates_get hd (show ds.length - 2 - n<ds.length by omega)
  have e:=rates_get hu (show ds.length - 1 - n<us.length by omega)
  refine⟨overQ_low _ _ (addQ_low _ _ oneQ_low (mulQ_low _ _ e.1 i1)) g.1 g.2.2.1,?_⟩
  exact below_mono (m:=1+(200+(403*n+201))+1+200) (by omega) (overQ_below (addQ_below (oneQ_below (by decide)) (mulQ_below e.2.1 i2)) g.2.1)
def upL (us ds:List Q3):List Q3:=(List.range us.length).map (upF us ds)
def dnL (us ds:List Q3):List Q3:=(List.range us.length).map fun i=>dnF us ds (us.length - 1 - i)
def ratesB (qs:List Q3):Bool:=qs.all posQ
def lineQ (us ds:List ByteArray):(List Q3×List Q3)×Bool:=
 if decide (1≤us.length)&&(decide (us.length≤20)&&(decide (ds.length=us.length)&&((rdAll us).2&&((rdAll ds).2&&(ratesB (rdAll us).1&&ratesB (rdAll ds).1)))))then(((rdAll us).1,(rdAll ds).1),true)else(([],[]),false)
theorem rates_of {ls:List ByteArray} (h:(rdAll ls).2=true) (hb:ratesB (rdAll ls).1=true):rates (rdAll ls).1:=fun r hr=>by
 obtain⟨h1,h2,h3⟩:=rdAll_ok h
 exact⟨(h3 r hr).1,(h3 r hr).2,List.all_eq_true.1 hb r hr⟩
theorem lineQ_ok {us ds:List ByteArray} (h:(lineQ us ds).2=true):(lineQ us ds).1=((rdAll us).1,(rdAll ds).1)∧rates (rdAll us).1∧rates (rdAll ds).1∧(rdAll us).1.length=us.length∧(rdAll ds).1.length=us.length∧1≤us.length∧us.length≤20:=by
 unfold lineQ at*
 split at h
 ·rename_i hc
  rw[if_pos hc]
  simp only[Bool.and_eq_true,decide_eq_true_iff]at hc
  obtain⟨c1,c2,c3,c4,c5,c6,c7⟩:=hc
  exact⟨rfl,rates_of c4 c6,rates_of c5 c7,(rdAll_ok c4).1,by rw[(rdAll_ok c5).1];exact c3,c1,c2⟩
 ·cases h
theorem sgnQ_pos (r:Q3):decide (sgnQ r.1 r.2.1>0)=posQ r:=by
 unfold posQ sgnQ
 by_cases h:r.2.1=0
 ·simp [h]
 ·cases r.1<;>simp [h]
theorem sgnQ_npos (r:Q3):decide (sgnQ r.1 r.2.1≤0)= !posQ r:=by
 unfold posQ sgnQ
 by_cases h:r.2.1=0
 ·simp [h]
 ·cases r.1<;>simp [h]
def ixF (f:Q3→Bool):List Q3→Int
 | []=> -1
 |x::r=>if f x=true then 0 else if ixF f r<0 then -1 else ixF f r+1
theorem ixF_cons (f:Q3→Bool) (x:Q3) (r:List Q3):ixF f (x::r)=if f x=true then 0 else if ixF f r<0 then -1 else ixF f r+1:=rfl
theorem ixF_ge (f:Q3→Bool) (qs:List Q3): -1≤ixF f qs:=by
 induction qs with
 |nil=>exact Int.le_refl _
 |cons x r ih=>
  rw[ixF_cons]
  split
  ·omega
  ·split<;>omega
theorem ixF_any (f:Q3→Bool) (qs:List Q3):decide (0≤ixF f qs)=qs.any f:=by
 induction qs with
 |nil=>rfl
 |cons x r ih=>
  rw[List.any_cons,←ih,ixF_cons]
  cases hx:f x
  ·rw[if_neg (by decide),Bool.false_or,decide_eq_decide]
   split<;>omega
  ·rw[if_pos rfl]
   rfl
theorem not_ratesB (qs:List Q3):(qs.any fun r=> !posQ r)= !ratesB qs:=by
 unfold ratesB
 rw[List.not_all_eq_any_not]
def posR (s:ByteArray):Q3×Bool:=((rdRat s.data.toList).1,(rdRat s.data.toList).2&&posQ (rdRat s.data.toList).1)
theorem posR_ok {s:ByteArray} (h:(posR s).2=true):low (posR s).1∧below 200 (posR s).1∧posQ (posR s).1=true:=by
 unfold posR at*
 dsimp only at*
 rw[Bool.and_eq_true]at h
 exact⟨rdRat_low _ h.1,(rdRat_ok _ h.1).2,h.2⟩
def isRate (B:Nat) (x:Bool×(List Int×List Int)):Prop:=∃r:Q3,x=rp B r∧low r∧below 200 r∧posQ r=true
theorem mulQ_comm (x y:Q3):mulQ x y=mulQ y x:=by
 unfold mulQ
 rw[Nat.mul_comm,Nat.mul_comm x.2.2]
 congr 1
 cases x.1<;>cases y.1<;>rfl
def cmpZ (x y:Q3):Int:=if sgnQ x.1 x.2.1≠sgnQ y.1 y.2.1 then sgnQ x.1 x.2.1 - sgnQ y.1 y.2.1 else if x.1=true then -(cmpN (x.2.1*y.2.2) (y.2.1*x.2.2))else cmpN (x.2.1*y.2.2) (y.2.1*x.2.2)
theorem cmpZ_ok {x y:Q3} (hx:low x) (hy:low y):(cmpZ x y<0↔qv x<qv y)∧(cmpZ x y=0↔qv x=qv y):=by
 have h:=cmpQ_lt hx hy
 have hx0:=hx.2.1
 have hy0:=hy.2.1
 have p1:=hx.1
 have p2:=hy.1
 have e0:∀a b:Nat,(cmpN a b<0↔a<b)∧(cmpN a b=0↔a=b):=fun a b=>by
  unfold cmpN
  split
  ·constructor<;>constructor<;>intros<;>omega
  ·split
   ·constructor<;>constructor<;>intros<;>omega
   ·constructor<;>constructor<;>intros<;>omega
 have f:=e0 (x.2.1*y.2.2) (y.2.1*x.2.2)
 have gt:cmpN (x.2.1*y.2.2) (y.2.1*x.2.2)>0↔y.2.1*x.2.2<x.2.1*y.2.2:=cmpN_gt
 have m1:x.2.1≠0→0<x.2.1*y.2.2:=fun e=>Nat.mul_pos (Nat.pos_of_ne_zero e) p2
 have m2:y.2.1≠0→0<y.2.1*x.2.2:=fun e=>Nat.mul_pos (Nat.pos_of_ne_zero e) p1
 have z1:x.2.1=0→x.2.1*y.2.2=0:=fun e=>by rw[e,Nat.zero_mul]
 have z2:y.2.1=0→y.2.1*x.2.2=0:=fun e=>by rw[e,Nat.zero_mul]
 rw[←h.1,←h.2]
 unfold cmpZ cmpQ sgnQ
 generalize x.2.1*y.2.2=A at*
 generalize y.2.1*x.2.2=C at*
 cases hx1:x.1<;>cases hy1:y.1<;>by_cases a0:x.2.1=0<;>by_cases b0:y.2.1=0<;>
  (simp [a0,b0,hx1,hy1]at*)<;>first|omega|(constructor<;>first|omega|(constructor<;>intros<;>omega))
def giveL (qs:List Q3):List ByteArray×Bool:=if qs.all fitN=true then(qs.map fun r=>(giveN r).1,true)else([],false)
def minI (a b:Int):Int:=if a<b then a else b
theorem mnx_min (a b:Int):mnx false a b=minI a b:=by
 unfold mnx minI
 rw[if_neg (by decide)]
 split<;>split<;>omega
def srvL (r:Q3) (servers:Int) (many:Nat):List Q3:=(List.range many).map fun i:Nat=>mulQ r (wholeQ (minI ((i:Int)+1) servers))
def usrL (r:Q3) (users:Nat):List Q3:=(List.range users).map fun i:Nat=>mulQ r (wholeQ ((users:Int) - (i:Int)))
theorem range_snoc {α:Type} (f:Nat→α) (i:Nat):(List.range (i+1)).map f=(List.range i).map f++[f i]:=by
 rw[List.range_succ,List.map_append]
 rfl
theorem whole20_below {k:Int} (h0:0≤k) (h1:k≤99):below 2 (wholeQ k):=wholeQ_below (n:=2) (by omega) (by decide)
theorem minI_range {a b:Int} (ha:1≤a) (hb:1≤b) (hc:b≤20):1≤minI a b∧minI a b≤20:=by
 unfold minI
 split<;>omega
theorem srvL_ok {r:Q3} (hl:low r) (hb:below 200 r) {servers:Int} (h1:1≤servers) (h2:servers≤20) (many:Nat):∀q∈srvL r servers many,low q∧below 202 q:=by
 intro q hq
 obtain⟨i,hi,rfl⟩:=List.mem_map.1 hq
 have:=minI_range (a:=(i:Int)+1) (by omega) h1 h2
 exact⟨mulQ_low _ _ hl (wholeQ_low _),mulQ_below hb (whole20_below (by omega) (by omega))⟩
theorem usrL_ok {r:Q3} (hl:low r) (hb:below 200 r) {users:Nat} (h2:users≤20):∀q∈usrL r users,low q∧below 202 q:=by
 intro q hq
 obtain⟨i,hi,rfl⟩:=List.mem_map.1 hq
 have:=List.mem_range.1 hi
 exact⟨mulQ_low _ _ hl (wholeQ_low _),mulQ_below hb (whole20_below (by omega) (by omega))⟩
theorem all_rok {B n:Nat} (hB:10^9≤B) (hn:n≤80000000) {qs:List Q3} (h:∀q∈qs,low q∧below n q):(qs.map (rp B)).all (rok B 10000000)=true:=by
 rw[List.all_eq_true]
 intro x hx
 obtain⟨q,hq,rfl⟩:=List.mem_map.1 hx
 exact below_rok9 hB (h q hq).2 (by omega)
def giveP (us ds:List Q3):(List ByteArray×List ByteArray)×Bool:=if((giveL us).2&&(giveL ds).2)=true then(((giveL us).1,(giveL ds).1),true)else(([],[]),false)
def usersT (users servers:Int) (th se:ByteArray):(List ByteArray×List ByteArray)×Bool:=
 if((posR th).2&&((posR se).2&&(decide (1≤servers∧servers≤20)&&decide (1≤users∧users≤20))))=true then giveP (usrL (posR th).1 users.toNat) (srvL (posR se).1 servers users.toNat)else(([],[]),false)
def serversT (ar se:ByteArray) (servers limit:Int):(List ByteArray×List ByteArray)×Bool:=
 if((posR ar).2&&((posR se).2&&(decide (1≤servers∧servers≤20)&&decide (1≤limit∧limit≤20))))=true then giveP (List.replicate limit.toNat (posR ar).1) (srvL (posR se).1 servers limit.toNat)else(([],[]),false)
def isLine (B:Nat) (x:List (Bool×(List Int×List Int))×List (Bool×(List Int×List Int))):Prop:=∃us ds:List Q3,x=(us.map (rp B),ds.map (rp B))∧rates us∧rates ds∧us.length=ds.length∧us.length≤20
theorem getD_rp (B:Nat) {us:List Q3} {i:Nat} (h:i<us.length):(us.map (rp B)).getD i (false,(([]:List Int),([]:List Int)))=rp B (us.getD i zeroQ):=by
 rw[List.getD_eq_getElem?_getD,List.getD_eq_getElem?_getD,List.getElem?_map,List.getElem?_eq_getElem h]
 rfl
theorem getD_rpR (B:Nat) {f:Nat→Q3} {n i:Nat} (h:i<n):(((List.range n).map f).map (rp B)).getD i (false,(([]:List Int),([]:List Int)))=rp B (f i):=by
 rw[getD_rp B (by simpa using h),List.getD_eq_getElem?_getD,List.getElem?_map,List.getElem?_range h]
 rfl
theorem lineQ_isLine {B:Nat} {us ds:List ByteArray} (h:(lineQ us ds).2=true):isLine B ((lineQ us ds).1.1.map (rp B),(lineQ us ds).1.2.map (rp B)):=by
 obtain⟨h1,h2,h3,h4,h5,h6,h7⟩:=lineQ_ok h
 rw[h1]
 exact⟨_,_,rfl,h2,h3,by rw[h4,h5],by rw[h4];exact h7⟩
theorem upL_ok {us ds:List Q3} (hu:rates us) (hd:rates ds) (hl:us.length=ds.length) (h20:us.length≤20):∀q∈upL us ds,low q∧below 8261 q:=by
 intro q hq
 obtain⟨i,hi,rfl⟩:=List.mem_map.1 hq
 have hi:=List.mem_range.1 hi
 have:=upF_ok hu hd i hi (by omega)
 exact⟨this.1,below_mono (by omega) this.2⟩
theorem dnL_ok {us ds:List Q3} (hu:rates us) (hd:rates ds) (hl:us.length=ds.length) (h20:us.length≤20):∀q∈dnL us ds,low q∧below 8261 q:=by
 intro q hq
 obtain⟨i,hi,rfl⟩:=List.mem_map.1 hq
 have hi:=List.mem_range.1 hi
 have:=dnF_ok hu hd hl (us.length - 1 - i) (by omega)
 exact⟨this.1,below_mono (by omega) this.2⟩
def balF (ws us ds:List Q3) (i:Nat):Bool:=decide (mulQ (ws.getD i zeroQ) (us.getD i zeroQ)=mulQ (ws.getD (i+1) zeroQ) (ds.getD i zeroQ))
def balT (us ds ws:List ByteArray):Bool:=(lineQ us ds).2&&((wtAll ws).2&&(decide (ws.length=us.length+1)&&(List.range us.length).all (balF (rdAll ws).1 (rdAll us).1 (rdAll ds).1)))
theorem all_drop (f:Nat→Bool) {n i:Nat} (h:i<n):((List.range n).drop i).all f=(f i&&((List.range n).drop (i+1)).all f):=by
 rw[List.drop_eq_getElem_cons (by simpa using h),List.all_cons,List.getElem_range]
theorem mem_getD {qs:List Q3} {n i:Nat} (h:∀r∈qs,low r∧below n r) (hi:i<qs.length):low (qs.getD i zeroQ)∧below n (qs.getD i zeroQ):=by
 rw[List.getD_eq_getElem?_getD,List.getElem?_eq_getElem hi]
 exact h _ (List.getElem_mem hi)
theorem cmpZ_eq {x y:Q3} (hx:low x) (hy:low y):cmpZ x y=0↔x=y:=by rw[(cmpZ_ok hx hy).2,qv_iff hx hy]
def timeT (us ds:List ByteArray) (a b:Int):ByteArray×Bool:=
 if((lineQ us ds).2&&(decide (0≤a∧a≤(us.length:Int))&&decide (0≤b∧b≤(us.length:Int))))=true then
  giveN (if a≤b then sumQ (((upL (rdAll us).1 (rdAll ds).1).drop a.toNat).take (b.toNat - a.toNat))else sumQ (((dnL (rdAll us).1 (rdAll ds).1).drop b.toNat).take (a.toNat - b.toNat)))
 else(bs [],false)
theorem upL_len (us ds:List Q3):(upL us ds).length=us.length:=by simp [upL]
theorem dnL_len (us ds:List Q3):(dnL us ds).length=us.length:=by simp [dnL]
theorem good_slice {n:Nat} {qs:List Q3} (h:∀q∈qs,low q∧below n q) (a b:Nat) (hl:(n+1)*qs.length+1≤80000000):goodQ n ((qs.drop a).take b):=by
 refine⟨fun r hr=>h r (List.mem_of_mem_drop (List.mem_of_mem_take hr)),?_⟩
 have h1:((qs.drop a).take b).length≤qs.length:=by simp;omega
 have:=Nat.mul_le_mul_left (n+1) h1
 omega
def chQ (rows:List (List ByteArray)):List (List Q3)×Bool:=
 if decide (1≤rows.length)&&(decide (rows.length≤12)&&rows.all fun r=>decide (r.length=rows.length)&&(wtAll r).2)then(rows.map fun r=>(rdAll r).1,true)else([],false)
def leastF (r m:Q3) (n:Nat):Bool:=decide (cmpZ (lossQ r n) m≤0)
def lsO:Option Nat→Int×Bool
 |some n=>((n:Int),true)
 |none=>(0,false)
def lsT (r m:Q3) (i:Nat):Int×Bool:=lsO (((List.range 21).drop i).find? (leastF r m))
theorem lsT_step (r m:Q3) {i:Nat} (h:i<21):lsT r m i=if leastF r m i=true then((i:Int),true)else lsT r m (i+1):=by
 unfold lsT
 rw[List.drop_eq_getElem_cons (by simpa using h),List.getElem_range,List.find?_cons]
 cases leastF r m i<;>rfl
theorem lsT_end (r m:Q3):lsT r m 21=(0,false):=rfl
theorem cmpN_scale {g:Nat} (hg:0<g) (a b:Nat):cmpN (g*a) (g*b)=cmpN a b:=by
 unfold cmpN
 have h1:g*a<g*b↔a<b:=Nat.mul_lt_mul_left hg
 have h2:g*b<g*a↔b<a:=Nat.mul_lt_mul_left hg
 simp only[h1,h2]
theorem cmpQ_raw (x:Q3) {t b:Nat} (hb:0<b):cmpQ x (false,(t,b))=cmpQ x (lowN false t b):=by
 have hg:0<Nat.gcd t b:=Nat.gcd_pos_of_pos_right _ hb
 have e1:Nat.gcd t b*(t/Nat.gcd t b)=t:=Nat.mul_div_cancel' (Nat.gcd_dvd_left _ _)
 have e2:Nat.gcd t b*(b/Nat.gcd t b)=b:=Nat.mul_div_cancel' (Nat.gcd_dvd_right _ _)
 have key:∀g p q:Nat,0<g→cmpN (x.2.1*(g*q)) (g*p*x.2.2)=cmpN (x.2.1*q) (p*x.2.2):=by
  intro g p q h
  rw[show x.2.1*(g*q)=g*(x.2.1*q) by ac_rfl,show g*p*x.2.2=g*(p*x.2.2) by ac_rfl,cmpN_scale h]
 have k2:=key (Nat.gcd t b) (t/Nat.gcd t b) (b/Nat.gcd t b) hg
 rw[e1,e2]at k2
 unfold cmpQ lowN
 dsimp only
 rw[Bool.false_and,k2]
theorem leastF_raw {r m:Q3} (hl:low r) (hp:posQ r=true) (hm:low m) (n:Nat):(!decide (cmpQ m (false,((lossN r n).1,(lossN r n).2))<0))=leastF r m n:=by
 have hn:=lossN_pos hl hp n
 have hL:=lossQ_low hl hp n
 rw[cmpQ_raw m hn.2,←lossQ_eq hl hp n]
 unfold leastF
 have h1:=(cmpQ_lt hm hL.1).1
 have h2:=(cmpZ_ok hL.1 hm)
 have key:¬(cmpQ m (lossQ r n)<0)↔cmpZ (lossQ r n) m≤0:=by
  rw[h1]
  constructor
  ·intro h
   by_cases he:qv (lossQ r n)=qv m
   ·have:=h2.2.2 he
    omega
   ·have hlt:qv (lossQ r n)<qv m:=by grind
    have:=h2.1.2 hlt
    omega
  ·intro h h'
   by_cases h0:cmpZ (lossQ r n) m=0
   ·have:=h2.2.1 h0
    grind
   ·have:=h2.1.1 (by omega)
    grind
 by_cases hc:cmpQ m (lossQ r n)<0
 ·rw[decide_eq_true hc,decide_eq_false (fun z=>(key.2 z) hc)]
  rfl
 ·rw[decide_eq_false hc,decide_eq_true (key.1 hc)]
  rfl
end Go.Cm
