import Derived.Test.YtdpljomfkoojnaaGreatDoorCmQz
set_option linter.unusedVariables false
namespace Go.Cm
def sm:Nat→(Nat→Rat)→Rat
 |0,_=>0
 |n+1,f=>sm n f+f n
theorem sm_congr {f g:Nat→Rat} :∀ {n:Nat},(∀i,i<n→f i=g i)→sm n f=sm n g
 |0,_=>rfl
 |n+1,h=>by
  rw[sm,sm,sm_congr fun i hi=>h i (by omega),h n (by omega)]
theorem sm_zero:∀n:Nat,sm n (fun _=>0)=0
 |0=>rfl
 |n+1=>by
  rw[sm,sm_zero n,Rat.add_zero]
theorem sm_add (f g:Nat→Rat):∀n:Nat,sm n (fun i=>f i+g i)=sm n f+sm n g
 |0=>by rw[sm,sm,sm,Rat.add_zero]
 |n+1=>by
  rw[sm,sm,sm,sm_add f g n]
  grind
theorem sm_mul (c:Rat) (f:Nat→Rat):∀n:Nat,sm n (fun i=>c*f i)=c*sm n f
 |0=>by rw[sm,sm,Rat.mul_zero]
 |n+1=>by
  rw[sm,sm,sm_mul c f n]
  grind
theorem sm_neg (f:Nat→Rat) (n:Nat):sm n (fun i=> -f i)= -sm n f:=by
 have:=sm_mul (-1) f n
 rw[show(fun i=> -f i)=fun i=> -1*f i by funext i;grind,this]
 grind
theorem sm_sub (f g:Nat→Rat) (n:Nat):sm n (fun i=>f i - g i)=sm n f - sm n g:=by
 rw[show(fun i=>f i - g i)=fun i=>f i+ -g i by funext i;grind,sm_add,sm_neg]
 grind
theorem sm_swap (f:Nat→Nat→Rat) (m:Nat):∀n:Nat,sm n (fun i=>sm m (f i))=sm m (fun j=>sm n (fun i=>f i j))
 |0=>by
  rw[sm]
  exact(sm_zero m).symm
 |n+1=>by
  rw[sm,sm_swap f m n,←sm_add]
  rfl
theorem sm_le {f g:Nat→Rat} :∀ {n:Nat},(∀i,i<n→f i≤g i)→sm n f≤sm n g
 |0,_=>Rat.le_refl
 |n+1,h=>by
  have a:=sm_le (f:=f) (g:=g) (n:=n) fun i hi=>h i (by omega)
  have b:=h n (by omega)
  rw[sm,sm]
  grind
theorem sm_nonneg {f:Nat→Rat} {n:Nat} (h:∀i,i<n→0≤f i):0≤sm n f:=by
 have:=sm_le (f:=fun _=>0) (g:=f) h
 rwa [sm_zero]at this
theorem sm_term {f:Nat→Rat} :∀ {n:Nat},(∀i,i<n→0≤f i)→∀i,i<n→f i≤sm n f
 |0,_,i,hi=>by omega
 |n+1,h,i,hi=>by
  have p:=sm_nonneg (f:=f) (n:=n) fun i hi=>h i (by omega)
  rw[sm]
  by_cases e:i=n
  ·subst e
   grind
  ·have a:=sm_term (f:=f) (n:=n) (fun i hi=>h i (by omega)) i (by omega)
   have b:=h n (by omega)
   grind
theorem sm_eq_zero {f:Nat→Rat} {n:Nat} (h:∀i,i<n→0≤f i) (hz:sm n f=0) (i:Nat) (hi:i<n):f i=0:=by
 have a:=sm_term h i hi
 have b:=h i hi
 grind
theorem sm_one (c:Nat→Rat) (k:Nat):∀n:Nat,sm n (fun i=>if i=k then c i else 0)=if k<n then c k else 0
 |0=>rfl
 |n+1=>by
  rw[sm,sm_one c k n]
  by_cases h:k=n
  ·subst h
   rw[if_neg (by omega),if_pos rfl,if_pos (by omega),Rat.zero_add]
  ·rw[if_neg (show ¬n=k from fun e=>h e.symm),Rat.add_zero]
   by_cases h2:k<n
   ·rw[if_pos h2,if_pos (by omega)]
   ·rw[if_neg h2,if_neg (by omega)]
def hd (D H:Nat) (r:Q3):Prop:=low r∧0<D∧∃z:Int,qv r*(D:Rat)=(z:Rat)∧z.natAbs≤H
theorem hd_mono {D H G:Nat} {r:Q3} (h:hd D H r) (hg:H≤G):hd D G r:=by
 obtain⟨a,b,z,c,d⟩:=h
 exact⟨a,b,z,c,by omega⟩
theorem hd_ints {D H:Nat} {r:Q3} (h:hd D H r):∃z:Int,sgZ r.1 r.2.1*(D:Int)=z*(r.2.2:Int)∧z.natAbs≤H:=by
 obtain⟨a,b,z,c,d⟩:=h
 refine⟨z,?_,d⟩
 unfold qv at c
 rw[Rat.mkRat_eq_div]at c
 have hb:((r.2.2:Nat):Rat)≠0:=by
  have:(0:Rat)<((r.2.2:Nat):Rat):=Rat.natCast_pos.2 a.1
  grind
 have e:((sgZ r.1 r.2.1:Int):Rat)*(D:Rat)=(z:Rat)*((r.2.2:Nat):Rat):=by
  have:((sgZ r.1 r.2.1:Int):Rat)/((r.2.2:Nat):Rat)*((r.2.2:Nat):Rat)=((sgZ r.1 r.2.1:Int):Rat):=Rat.div_mul_cancel hb
  rw[←c]
  grind
 have e2:((sgZ r.1 r.2.1*(D:Int):Int):Rat)=((z*(r.2.2:Int):Int):Rat):=by
  rw[Rat.intCast_mul,Rat.intCast_mul]
  exact e
 exact Rat.intCast_inj.1 e2
theorem sgZ_abs (n:Bool) (p:Nat):(sgZ n p).natAbs=p:=by
 unfold sgZ
 split<;>omega
theorem hd_below {D H n:Nat} {r:Q3} (h:hd D H r) (h1:H<10^n) (h2:D<10^n):below n r:=by
 obtain⟨z,e,hz⟩:=hd_ints h
 obtain⟨⟨a1,a2,a3⟩,b,_⟩:=h
 have e2:r.2.1*D=z.natAbs*r.2.2:=by
  have:=congrArg Int.natAbs e
  rw[Int.natAbs_mul,Int.natAbs_mul,sgZ_abs]at this
  simpa using this
 have hd1:r.2.2 ∣ r.2.1*D:=⟨z.natAbs,by rw[e2,Nat.mul_comm]⟩
 have hd2:r.2.2 ∣ D:=Nat.Coprime.dvd_of_dvd_mul_left (Nat.Coprime.symm a3) hd1
 have hle:r.2.2≤D:=Nat.le_of_dvd b hd2
 have hn:r.2.1≤z.natAbs:=by
  have:r.2.1*D≤z.natAbs*D:=by
   rw[e2]
   exact Nat.mul_le_mul_left _ hle
  exact Nat.le_of_mul_le_mul_right this b
 exact⟨by omega,by omega⟩
theorem hd_add {D H G:Nat} {x y:Q3} (hx:hd D H x) (hy:hd D G y):hd D (H+G) (addQ x y):=by
 obtain⟨a,b,z,c,d⟩:=hx
 obtain⟨a',b',z',c',d'⟩:=hy
 refine⟨addQ_low _ _ a a',b,z+z',?_,by omega⟩
 rw[qv_add a a',Rat.intCast_add,←c,←c',Rat.add_mul]
theorem hd_mul {D H E G:Nat} {x y:Q3} (hx:hd D H x) (hy:hd E G y):hd (D*E) (H*G) (mulQ x y):=by
 obtain⟨a,b,z,c,d⟩:=hx
 obtain⟨a',b',z',c',d'⟩:=hy
 refine⟨mulQ_low _ _ a a',Nat.mul_pos b b',z*z',?_,by rw[Int.natAbs_mul];exact Nat.mul_le_mul d d'⟩
 rw[qv_mul a a',Rat.intCast_mul,←c,←c',Rat.natCast_mul]
 grind
theorem hd_opp {D H:Nat} {x:Q3} (hx:hd D H x):hd D H (oppQ x):=by
 obtain⟨a,b,z,c,d⟩:=hx
 refine⟨oppQ_low _ a,b, -z,?_,by omega⟩
 rw[qv_opp a,Rat.intCast_neg,←c,Rat.neg_mul]
theorem hd_scale {D H:Nat} {x:Q3} (hx:hd D H x) {k:Nat} (hk:0<k):hd (D*k) (H*k) x:=by
 obtain⟨a,b,z,c,d⟩:=hx
 refine⟨a,Nat.mul_pos b hk,z*k,?_,by rw[Int.natAbs_mul];exact Nat.mul_le_mul_right _ d⟩
 rw[Rat.intCast_mul,←c,Rat.natCast_mul]
 show qv x*(↑D* ↑k)=qv x* ↑D*((k:Int):Rat)
 rw[Rat.intCast_natCast]
 grind
theorem hd_zero {D:Nat} (hD:0<D) (H:Nat):hd D H zeroQ:=by
 refine⟨zeroQ_low,hD,0,?_,by omega⟩
 rw[qv_zeroQ,Rat.zero_mul]
 rfl
theorem hd_one {D:Nat} (hD:0<D):hd D D oneQ:=by
 refine⟨oneQ_low,hD,(D:Int),?_,by omega⟩
 rw[qv_oneQ,Rat.one_mul,Rat.intCast_natCast]
theorem hd_self {r:Q3} (h:low r):hd r.2.2 r.2.1 r:=by
 refine⟨h,h.1,sgZ r.1 r.2.1,?_,by rw[sgZ_abs];exact Nat.le_refl _⟩
 have hb:((r.2.2:Nat):Rat)≠0:=by
  have:(0:Rat)<((r.2.2:Nat):Rat):=Rat.natCast_pos.2 h.1
  grind
 unfold qv
 rw[Rat.mkRat_eq_div]
 exact Rat.div_mul_cancel hb
def dens:List Q3→Nat
 | []=>1
 |r::rs=>r.2.2*dens rs
theorem dens_pos:∀ {rs:List Q3},(∀r∈rs,low r)→0<dens rs
 | [],_=>Nat.one_pos
 |r::rs,h=>Nat.mul_pos (h r (List.mem_cons_self ..)).1 (dens_pos fun q hq=>h q (List.mem_cons_of_mem _ hq))
theorem dens_hd:∀ {rs:List Q3},(∀r∈rs,low r)→∀r∈rs,hd (dens rs) (r.2.1*dens rs) r
 | [],_,_,hr=>by cases hr
 |q::rs,h,r,hr=>by
  have hq:=h q (List.mem_cons_self ..)
  have hp:=dens_pos fun q hq=>h q (List.mem_cons_of_mem _ hq)
  rcases List.mem_cons.1 hr with rfl|hr
  ·refine hd_mono (hd_scale (hd_self hq) hp) ?_
   rw[dens]
   exact Nat.mul_le_mul_left _ (Nat.le_mul_of_pos_left _ hq.1)
  ·have:=hd_scale (dens_hd (fun q hq=>h q (List.mem_cons_of_mem _ hq)) r hr) hq.1
   rw[Nat.mul_comm,Nat.mul_assoc,Nat.mul_comm (dens rs)]at this
   exact this
theorem dens_le {n:Nat} :∀ {rs:List Q3},(∀r∈rs,below n r)→dens rs≤10^(n*rs.length)
 | [],_=>by simp [dens]
 |r::rs,h=>by
  have a:=(h r (List.mem_cons_self ..)).2
  have b:=dens_le fun q hq=>h q (List.mem_cons_of_mem _ hq)
  rw[dens,List.length_cons,Nat.mul_succ,Nat.add_comm,Nat.pow_add]
  exact Nat.mul_le_mul (by omega) b
def dotQ (w m:Nat→Q3):Nat→Q3
 |0=>zeroQ
 |n+1=>addQ (dotQ w m n) (mulQ (w n) (m n))
theorem dotQ_hd {D H E G:Nat} (hD:0<D) (hE:0<E) {w m:Nat→Q3} :∀ {n:Nat},(∀i,i<n→hd D H (w i)∧hd E G (m i))→hd (D*E) (n*(H*G)) (dotQ w m n)
 |0,_=>hd_zero (Nat.mul_pos hD hE) _
 |n+1,h=>by
  have a:=dotQ_hd hD hE (n:=n) fun i hi=>h i (by omega)
  obtain⟨b,c⟩:=h n (by omega)
  rw[dotQ,Nat.succ_mul]
  exact hd_add a (hd_mul b c)
theorem dotQ_qv {w m:Nat→Q3} :∀ {n:Nat},(∀i,i<n→low (w i)∧low (m i))→low (dotQ w m n)∧qv (dotQ w m n)=sm n fun i=>qv (w i)*qv (m i)
 |0,_=>⟨zeroQ_low,qv_zeroQ⟩
 |n+1,h=>by
  obtain⟨a1,a2⟩:=dotQ_qv (n:=n) fun i hi=>h i (by omega)
  obtain⟨b,c⟩:=h n (by omega)
  exact⟨addQ_low _ _ a1 (mulQ_low _ _ b c),by rw[dotQ,qv_add a1 (mulQ_low _ _ b c),a2,qv_mul b c];rfl⟩
def mq (M:List (List Q3)):Nat→Nat→Q3:=fun i j=>(M.getD i []).getD j zeroQ
theorem ch_at {M:List (List Q3)} (h:isCh M) {i j:Nat} (hi:i<M.length) (hj:j<M.length):low (mq M i j)∧below 200 (mq M i j)∧(mq M i j).1=false:=by
 have e:M.getD i []=M[i]:=by simp [List.getD_eq_getElem?_getD,hi]
 obtain⟨_,h2,h3⟩:=h
 obtain⟨h4,h5⟩:=h2.2 _ (List.getElem_mem hi)
 obtain⟨h6,_⟩:=h3 _ (List.getElem_mem hi)
 unfold mq
 rw[e]
 have hj':j<M[i].length:=by omega
 have e2:M[i].getD j zeroQ=M[i][j]:=by simp [List.getD_eq_getElem?_getD,hj']
 rw[e2]
 exact⟨(h6 _ (List.getElem_mem hj')).1,(h6 _ (List.getElem_mem hj')).2,h5 _ (List.getElem_mem hj')⟩
theorem all_below {M:List (List Q3)} (h:isCh M):∀q∈M.flatten,low q∧below 200 q:=fun q hq=>by
 obtain⟨r,hr,hq⟩:=List.mem_flatten.1 hq
 exact(h.2.2 r hr).1 q hq
theorem flat_len {M:List (List Q3)} (h:isM M):M.flatten.length≤144:=by
 have key:∀(L:List (List Q3)) (n:Nat),(∀r∈L,r.length=n)→L.flatten.length=L.length*n:=by
  intro L n
  induction L with
  |nil=>intro _;simp
  |cons r L ih=>
   intro hL
   rw[List.flatten_cons,List.length_append,hL r (List.mem_cons_self ..),ih fun q hq=>hL q (List.mem_cons_of_mem _ hq),List.length_cons,Nat.succ_mul,Nat.add_comm]
 rw[key M M.length fun r hr=>(h.2 r hr).1]
 exact Nat.mul_le_mul h.1 h.1
theorem mq_mem {M:List (List Q3)} (h:isCh M) {i j:Nat} (hi:i<M.length) (hj:j<M.length):mq M i j∈M.flatten:=by
 have e:M.getD i []=M[i]:=by simp [List.getD_eq_getElem?_getD,hi]
 have:=(h.2.1.2 _ (List.getElem_mem hi)).1
 have hj':j<M[i].length:=by omega
 refine List.mem_flatten.2 ⟨M[i],List.getElem_mem hi,?_⟩
 unfold mq
 rw[e,List.getD_eq_getElem?_getD,List.getElem?_eq_getElem hj']
 exact List.getElem_mem hj'
def stepQ (M:List (List Q3)) (w:List Q3):List Q3:=tab w.length fun j=>dotQ (fun i=>w.getD i zeroQ) (fun i=>mq M i j) w.length
def afterQ (M:List (List Q3)):Nat→List Q3→List Q3
 |0,w=>w
 |t+1,w=>afterQ M t (stepQ M w)
theorem stepQ_len (M:List (List Q3)) (w:List Q3):(stepQ M w).length=w.length:=tab_len _ _
theorem chD {M:List (List Q3)} (h:isCh M) {a b:Nat} (ha:28800≤a) (hb:29000≤b):0<dens M.flatten∧dens M.flatten≤10^a∧∀i,i<M.length→∀j,j<M.length→hd (dens M.flatten) (10^b) (mq M i j):=by
 have hl:∀q∈M.flatten,low q:=fun q hq=>(all_below h q hq).1
 have hD:∀ {c:Nat},28800≤c→dens M.flatten≤10^c:=fun hc=>Nat.le_trans (dens_le fun q hq=>(all_below h q hq).2) (Nat.pow_le_pow_right (by decide) (Nat.le_trans (Nat.mul_le_mul_left _ (flat_len h.2.1)) hc))
 refine⟨dens_pos hl,hD ha,fun i hi j hj=> ?_⟩
 have hm:=mq_mem h hi hj
 refine hd_mono (dens_hd hl _ hm) ?_
 have h2:=Nat.mul_le_mul (Nat.le_of_lt (all_below h _ hm).2.1) (hD (c:=b - 200) (by omega))
 rw[←Nat.pow_add]at h2
 exact Nat.le_trans h2 (Nat.pow_le_pow_right (by decide) (by omega))
def wOk (M:List (List Q3)) (w:List Q3) (t:Nat):Prop:=w.length=M.length∧∃d,d≤10^(3000+29100*t)∧∀q∈w,hd d (10^(3000+29100*t)) q
theorem wOk_get {M:List (List Q3)} {w:List Q3} {t:Nat} (h:wOk M w t):∃d,d≤10^(3000+29100*t)∧∀i,i<w.length→hd d (10^(3000+29100*t)) (w.getD i zeroQ):=by
 obtain⟨h1,d,h2,h3⟩:=h
 refine⟨d,h2,fun i hi=>h3 _ ?_⟩
 rw[List.getD_eq_getElem?_getD,List.getElem?_eq_getElem hi]
 exact List.getElem_mem hi
theorem dot_ok {M:List (List Q3)} (h:isCh M) {w:List Q3} {t:Nat} (hw:wOk M w t) {j:Nat} (hj:j<M.length):∃D,D≤10^(3000+29100*(t+1))∧∀n,n≤w.length→hd D (10^(3000+29100*(t+1))) (dotQ (fun i=>w.getD i zeroQ) (fun i=>mq M i j) n):=by
 obtain⟨d,d1,d2⟩:=wOk_get hw
 obtain⟨a,ha⟩:∃a,a=28800:=⟨_,rfl⟩
 obtain⟨b,hb⟩:∃b,b=29000:=⟨_,rfl⟩
 obtain⟨e1,e2,e3⟩:=chD h (a:=a) (b:=b) (by omega) (by omega)
 have hl:=hw.1
 have hn:=h.2.1.1
 have hp:∀k:Nat,k≤10^2→k*(10^(3000+29100*t)*10^b)≤10^(3000+29100*(t+1)):=fun k hk=>by
  have:=Nat.mul_le_mul_right (10^(3000+29100*t)*10^b) hk
  rw[←Nat.pow_add,←Nat.pow_add]at this
  exact Nat.le_trans (by rw[←Nat.pow_add];exact this) (Nat.pow_le_pow_right (by decide) (by omega))
 have hd0:0<d:=by
  have:=(d2 0 (by have:=h.1;omega)).2.1
  exact this
 refine⟨d*dens M.flatten,?_,fun n hnw=> ?_⟩
 ·have:=Nat.mul_le_mul d1 e2
  rw[←Nat.pow_add]at this
  exact Nat.le_trans this (Nat.pow_le_pow_right (by decide) (by omega))
 ·have:=dotQ_hd hd0 e1 (n:=n) (w:=fun i=>w.getD i zeroQ) (m:=fun i=>mq M i j) fun i hi=>⟨d2 i (by omega),e3 i (by omega) j hj⟩
  exact hd_mono this (hp n (Nat.le_trans (show n≤12 by omega) (by decide)))
theorem stepQ_ok {M:List (List Q3)} (h:isCh M) {w:List Q3} {t:Nat} (hw:wOk M w t):wOk M (stepQ M w) (t+1):=by
 have hl:=hw.1
 obtain⟨d,d1,d2⟩:=wOk_get hw
 obtain⟨a,ha⟩:∃a,a=28800:=⟨_,rfl⟩
 obtain⟨b,hb⟩:∃b,b=29000:=⟨_,rfl⟩
 obtain⟨e1,e2,e3⟩:=chD h (a:=a) (b:=b) (by omega) (by omega)
 refine⟨by rw[stepQ_len,hl],d*dens M.flatten,?_,fun q hq=> ?_⟩
 ·have:=Nat.mul_le_mul d1 e2
  rw[←Nat.pow_add]at this
  exact Nat.le_trans this (Nat.pow_le_pow_right (by decide) (by omega))
 ·obtain⟨j,hj,rfl⟩:=tab_mem.1 hq
  have hd0:0<d:=(d2 0 (by have:=h.1;omega)).2.1
  have:=dotQ_hd hd0 e1 (n:=w.length) (w:=fun i=>w.getD i zeroQ) (m:=fun i=>mq M i j) fun i hi=>⟨d2 i (by omega),e3 i (by omega) j (by omega)⟩
  refine hd_mono this ?_
  have hk:=Nat.mul_le_mul_right (10^(3000+29100*t)*10^b) (show w.length≤10^2 from Nat.le_trans (show w.length≤12 by have:=h.2.1.1;omega) (by decide))
  rw[←Nat.pow_add,←Nat.pow_add]at hk
  exact Nat.le_trans (by rw[←Nat.pow_add];exact hk) (Nat.pow_le_pow_right (by decide) (by omega))
theorem wOk_start {M:List (List Q3)} (h:isCh M) {w:List Q3} (hl:w.length=M.length) (hw:∀q∈w,low q∧below 200 q) {t:Nat} (ht:t=0):wOk M w t:=by
 have hn:=h.2.1.1
 obtain⟨c,hc⟩:∃c,c=2400:=⟨_,rfl⟩
 have hD:dens w≤10^c:=Nat.le_trans (dens_le fun q hq=>(hw q hq).2) (Nat.pow_le_pow_right (by decide) (by omega))
 refine⟨hl,dens w,Nat.le_trans hD (Nat.pow_le_pow_right (by decide) (by omega)),fun q hq=>hd_mono (dens_hd (fun r hr=>(hw r hr).1) q hq) ?_⟩
 have h2:=Nat.mul_le_mul (Nat.le_of_lt (hw q hq).2.1) hD
 rw[←Nat.pow_add]at h2
 exact Nat.le_trans h2 (Nat.pow_le_pow_right (by decide) (by omega))
theorem pow_big {t c:Nat} (h:3000+29100*(t+1)<c):10^(3000+29100*(t+1))<10^c:=Nat.pow_lt_pow_right (by decide) h
theorem wOk_mono {M:List (List Q3)} {w:List Q3} {t s:Nat} (h:wOk M w t) (hts:t≤s):wOk M w s:=by
 obtain⟨h1,d,h2,h3⟩:=h
 have hp:10^(3000+29100*t)≤10^(3000+29100*s):=Nat.pow_le_pow_right (by decide) (by omega)
 exact⟨h1,d,Nat.le_trans h2 hp,fun q hq=>hd_mono (h3 q hq) hp⟩
theorem wOk_below {M:List (List Q3)} {w:List Q3} {t:Nat} (h:wOk M w t) (ht:t≤42) {c:Nat} (hc:c=2000000):∀q∈w,low q∧below c q:=fun q hq=>by
 obtain⟨h1,d,h2,h3⟩:=h
 have hp:10^(3000+29100*t)<10^c:=Nat.pow_lt_pow_right (by decide) (by omega)
 exact⟨(h3 q hq).1,hd_below (h3 q hq) hp (Nat.lt_of_le_of_lt h2 hp)⟩
theorem afterQ_ok {M:List (List Q3)} (h:isCh M):∀(t:Nat) (w:List Q3) (s:Nat),wOk M w s→wOk M (afterQ M t w) (s+t)
 |0,_,_,hw=>hw
 |t+1,w,s,hw=>by
  have:=afterQ_ok h t _ _ (stepQ_ok h hw)
  rw[show s+1+t=s+(t+1) by omega]at this
  exact this
theorem afterQ_succ (M:List (List Q3)):∀(t:Nat) (w:List Q3),afterQ M (t+1) w=stepQ M (afterQ M t w)
 |0,_=>rfl
 |t+1,w=>by
  rw[afterQ,afterQ_succ M t]
  rfl
end Go.Cm
