import Derived.Test.YtdpljomfkoojnaaGreatDoorCmQz
section
set_option linter.unusedVariables false
namespace Go.Cm
def sm:Nat->(Nat->Rat)->Rat
 |0,_=>0
 |n+1,f=>sm n f+f n
theorem sm_congr {f g:Nat->Rat} :∀ {n:Nat},(∀i,i<n->f i=g i)->sm n f=sm n g
 |0,_=>rfl
 |n+1,h=>by
  rw[sm,sm,sm_congr fun i hi=>h i (by omega),h n (by omega)]
theorem sm_zero:∀n:Nat,sm n (fun _=>0)=0
 |0=>rfl
 |n+1=>by
  rw[sm,sm_zero n,Rat.add_zero]
theorem sm_add (f g:Nat->Rat):∀n:Nat,sm n (fun i=>f i+g i)=sm n f+sm n g
 |0=>by rw[sm,sm,sm,Rat.add_zero]
 |n+1=>by
  rw[sm,sm,sm,sm_add f g n];grind
theorem sm_mul (c:Rat) (f:Nat->Rat):∀n:Nat,sm n (fun i=>c*f i)=c*sm n f
 |0=>by rw[sm,sm,Rat.mul_zero]
 |n+1=>by
  rw[sm,sm,sm_mul c f n];grind
theorem sm_neg (f:Nat->Rat) (n:Nat):sm n (fun i=> -f i)= -sm n f:=by
 have:=sm_mul (-1) f n;rw[show(fun i=> -f i)=fun i=> -1*f i by funext i;grind,this];grind
theorem sm_sub (f g:Nat->Rat) (n:Nat):sm n (fun i=>f i - g i)=sm n f - sm n g:=by
 rw[show(fun i=>f i - g i)=fun i=>f i+ -g i by funext i;grind,sm_add,sm_neg];grind
theorem sm_swap (f:Nat->Nat->Rat) (m:Nat):∀n:Nat,sm n (fun i=>sm m (f i))=sm m (fun j=>sm n (fun i=>f i j))
 |0=>by
  rw[sm];exact(sm_zero m).symm
 |n+1=>by
  rw[sm,sm_swap f m n,<-sm_add];rfl
theorem sm_le {f g:Nat->Rat} :∀ {n:Nat},(∀i,i<n->f i<=g i)->sm n f<=sm n g
 |0,_=>Rat.le_refl
 |n+1,h=>by
  have a:=sm_le (f:=f) (g:=g) (n:=n) fun i hi=>h i (by omega)
  have b:=h n (by omega);rw[sm,sm];grind
theorem sm_nonneg {f:Nat->Rat} {n:Nat} (h:∀i,i<n->0<=f i):0<=sm n f:=by
 have:=sm_le (f:=fun _=>0) (g:=f) h;rwa [sm_zero]at this
theorem sm_term {f:Nat->Rat} :∀ {n:Nat},(∀i,i<n->0<=f i)->∀i,i<n->f i<=sm n f
 |0,_,i,hi=>by omega
 |n+1,h,i,hi=>by
  have p:=sm_nonneg (f:=f) (n:=n) fun i hi=>h i (by omega)
  rw[sm]
  by_cases e:i=n
  ·subst e;grind
  ·have a:=sm_term (f:=f) (n:=n) (fun i hi=>h i (by omega)) i (by omega);have b:=h n (by omega);grind
theorem sm_eq_zero {f:Nat->Rat} {n:Nat} (h:∀i,i<n->0<=f i) (hz:sm n f=0) (i:Nat) (hi:i<n):f i=0:=by
 have a:=sm_term h i hi;have b:=h i hi;grind
theorem sm_one (c:Nat->Rat) (k:Nat):∀n:Nat,sm n (fun i=>if i=k then c i else 0)=if k<n then c k else 0
 |0=>rfl
 |n+1=>by
  rw[sm,sm_one c k n]
  by_cases h:k=n
  ·subst h;rw[if_neg (by omega),if_pos rfl,if_pos (by omega),Rat.zero_add]
  ·rw[if_neg (show ¬n=k from fun e=>h e.symm),Rat.add_zero]
   by_cases h2:k<n
   ·rw[if_pos h2,if_pos (by omega)]
   ·rw[if_neg h2,if_neg (by omega)]
def hd (D H:Nat) (r:Q3):Prop:=low r/\0<D/\∃z:Int,qv r*(D:Rat)=(z:Rat)/\z.natAbs<=H
theorem hd_mono {D H G:Nat} {r:Q3} (h:hd D H r) (hg:H<=G):hd D G r:=by
 obtain⟨a,b,z,c,d⟩:=h;exact⟨a,b,z,c,by omega⟩
theorem hd_ints {D H:Nat} {r:Q3} (h:hd D H r):∃z:Int,sgZ r.1 r.2.1*(D:Int)=z*(r.2.2:Int)/\z.natAbs<=H:=by
 obtain⟨a,b,z,c,d⟩:=h;refine⟨z,?_,d⟩;unfold qv at c;rw[Rat.mkRat_eq_div]at c;have hb:((r.2.2:Nat):Rat)≠0:=by
  have:(0:Rat)<((r.2.2:Nat):Rat):=Rat.natCast_pos.2 a.1;grind
 have e:((sgZ r.1 r.2.1:Int):Rat)*(D:Rat)=(z:Rat)*((r.2.2:Nat):Rat):=by
  have:((sgZ r.1 r.2.1:Int):Rat)/((r.2.2:Nat):Rat)*((r.2.2:Nat):Rat)=((sgZ r.1 r.2.1:Int):Rat):=Rat.div_mul_cancel hb;rw[<-c];grind
 have e2:((sgZ r.1 r.2.1*(D:Int):Int):Rat)=((z*(r.2.2:Int):Int):Rat):=by
  rw[Rat.intCast_mul,Rat.intCast_mul];exact e
 exact Rat.intCast_inj.1 e2
theorem sgZ_abs (n:Bool) (p:Nat):(sgZ n p).natAbs=p:=by
 unfold sgZ;split<;>omega
theorem hd_below {D H n:Nat} {r:Q3} (h:hd D H r) (h1:H<10^n) (h2:D<10^n):below n r:=by
 obtain⟨z,e,hz⟩:=hd_ints h;obtain⟨⟨a1,a2,a3⟩,b,_⟩:=h;have e2:r.2.1*D=z.natAbs*r.2.2:=by
  have:=congrArg Int.natAbs e;rw[Int.natAbs_mul,Int.natAbs_mul,sgZ_abs]at this;simpa using this
 have hd1:r.2.2 ∣ r.2.1*D:=⟨z.natAbs,by rw[e2,Nat.mul_comm]⟩
 have hd2:r.2.2 ∣ D:=Nat.Coprime.dvd_of_dvd_mul_left (Nat.Coprime.symm a3) hd1;have hle:r.2.2<=D:=Nat.le_of_dvd b hd2;have hn:r.2.1<=z.natAbs:=by
  have:r.2.1*D<=z.natAbs*D:=by
   rw[e2];exact Nat.mul_le_mul_left _ hle
  exact Nat.le_of_mul_le_mul_right this b
 exact⟨by omega,by omega⟩
theorem hd_add {D H G:Nat} {x y:Q3} (hx:hd D H x) (hy:hd D G y):hd D (H+G) (addQ x y):=by
 obtain⟨a,b,z,c,d⟩:=hx;obtain⟨a',b',z',c',d'⟩:=hy;refine⟨addQ_low _ _ a a',b,z+z',?_,by omega⟩;rw[qv_add a a',Rat.intCast_add,<-c,<-c',Rat.add_mul]
theorem hd_mul {D H E G:Nat} {x y:Q3} (hx:hd D H x) (hy:hd E G y):hd (D*E) (H*G) (mulQ x y):=by
 obtain⟨a,b,z,c,d⟩:=hx;obtain⟨a',b',z',c',d'⟩:=hy;refine⟨mulQ_low _ _ a a',Nat.mul_pos b b',z*z',?_,by rw[Int.natAbs_mul];exact Nat.mul_le_mul d d'⟩;rw[qv_mul a a',Rat.intCast_mul,<-c,<-c',Rat.natCast_mul];grind
theorem hd_opp {D H:Nat} {x:Q3} (hx:hd D H x):hd D H (oppQ x):=by
 obtain⟨a,b,z,c,d⟩:=hx;refine⟨oppQ_low _ a,b, -z,?_,by omega⟩;rw[qv_opp a,Rat.intCast_neg,<-c,Rat.neg_mul]
theorem hd_scale {D H:Nat} {x:Q3} (hx:hd D H x) {k:Nat} (hk:0<k):hd (D*k) (H*k) x:=by
 obtain⟨a,b,z,c,d⟩:=hx;refine⟨a,Nat.mul_pos b hk,z*k,?_,by rw[Int.natAbs_mul];exact Nat.mul_le_mul_right _ d⟩;rw[Rat.intCast_mul,<-c,Rat.natCast_mul];show qv x*(↑D* ↑k)=qv x* ↑D*((k:Int):Rat);rw[Rat.intCast_natCast];grind
theorem hd_zero {D:Nat} (hD:0<D) (H:Nat):hd D H zeroQ:=by
 refine⟨zeroQ_low,hD,0,?_,by omega⟩;rw[qv_zeroQ,Rat.zero_mul];rfl
theorem hd_one {D:Nat} (hD:0<D):hd D D oneQ:=by
 refine⟨oneQ_low,hD,(D:Int),?_,by omega⟩;rw[qv_oneQ,Rat.one_mul,Rat.intCast_natCast]
theorem hd_self {r:Q3} (h:low r):hd r.2.2 r.2.1 r:=by
 refine⟨h,h.1,sgZ r.1 r.2.1,?_,by rw[sgZ_abs];exact Nat.le_refl _⟩;have hb:((r.2.2:Nat):Rat)≠0:=by
  have:(0:Rat)<((r.2.2:Nat):Rat):=Rat.natCast_pos.2 h.1;grind
 unfold qv;rw[Rat.mkRat_eq_div];exact Rat.div_mul_cancel hb
def dens:List Q3->Nat
 | []=>1
 |r::rs=>r.2.2*dens rs
theorem dens_pos:∀ {rs:List Q3},(∀r∈rs,low r)->0<dens rs
 | [],_=>Nat.one_pos
 |r::rs,h=>Nat.mul_pos (h r (List.mem_cons_self ..)).1 (dens_pos fun q hq=>h q (List.mem_cons_of_mem _ hq))
theorem dens_hd:∀ {rs:List Q3},(∀r∈rs,low r)->∀r∈rs,hd (dens rs) (r.2.1*dens rs) r
 | [],_,_,hr=>by cases hr
 |q::rs,h,r,hr=>by
  have hq:=h q (List.mem_cons_self ..);have hp:=dens_pos fun q hq=>h q (List.mem_cons_of_mem _ hq)
  rcases List.mem_cons.1 hr with rfl|hr
  ·refine hd_mono (hd_scale (hd_self hq) hp) ?_;rw[dens];exact Nat.mul_le_mul_left _ (Nat.le_mul_of_pos_left _ hq.1)
  ·have:=hd_scale (dens_hd (fun q hq=>h q (List.mem_cons_of_mem _ hq)) r hr) hq.1;rw[Nat.mul_comm,Nat.mul_assoc,Nat.mul_comm (dens rs)]at this;exact this
theorem dens_le {n:Nat} :∀ {rs:List Q3},(∀r∈rs,below n r)->dens rs<=10^(n*rs.length)
 | [],_=>by simp [dens]
 |r::rs,h=>by
  have a:=(h r (List.mem_cons_self ..)).2;have b:=dens_le fun q hq=>h q (List.mem_cons_of_mem _ hq)
  rw[dens,List.length_cons,Nat.mul_succ,Nat.add_comm,Nat.pow_add];exact Nat.mul_le_mul (by omega) b
def dotQ (w m:Nat->Q3):Nat->Q3
 |0=>zeroQ
 |n+1=>addQ (dotQ w m n) (mulQ (w n) (m n))
theorem dotQ_hd {D H E G:Nat} (hD:0<D) (hE:0<E) {w m:Nat->Q3} :∀ {n:Nat},(∀i,i<n->hd D H (w i)/\hd E G (m i))->hd (D*E) (n*(H*G)) (dotQ w m n)
 |0,_=>hd_zero (Nat.mul_pos hD hE) _
 |n+1,h=>by
  have a:=dotQ_hd hD hE (n:=n) fun i hi=>h i (by omega)
  obtain⟨b,c⟩:=h n (by omega);rw[dotQ,Nat.succ_mul];exact hd_add a (hd_mul b c)
theorem dotQ_qv {w m:Nat->Q3} :∀ {n:Nat},(∀i,i<n->low (w i)/\low (m i))->low (dotQ w m n)/\qv (dotQ w m n)=sm n fun i=>qv (w i)*qv (m i)
 |0,_=>⟨zeroQ_low,qv_zeroQ⟩
 |n+1,h=>by
  obtain⟨a1,a2⟩:=dotQ_qv (n:=n) fun i hi=>h i (by omega)
  obtain⟨b,c⟩:=h n (by omega);exact⟨addQ_low _ _ a1 (mulQ_low _ _ b c),by rw[dotQ,qv_add a1 (mulQ_low _ _ b c),a2,qv_mul b c];rfl⟩
def mq (M:List (List Q3)):Nat->Nat->Q3:=fun i j=>(M.getD i []).getD j zeroQ
theorem ch_at {M:List (List Q3)} (h:isCh M) {i j:Nat} (hi:i<M.length) (hj:j<M.length):low (mq M i j)/\below 200 (mq M i j)/\(mq M i j).1=false:=by
 have e:M.getD i []=M[i]:=by simp [List.getD_eq_getElem?_getD,hi]
 obtain⟨_,h2,h3⟩:=h;obtain⟨h4,h5⟩:=h2.2 _ (List.getElem_mem hi);obtain⟨h6,_⟩:=h3 _ (List.getElem_mem hi);unfold mq;rw[e];have hj':j<M[i].length:=by omega
 have e2:M[i].getD j zeroQ=M[i][j]:=by simp [List.getD_eq_getElem?_getD,hj']
 rw[e2];exact⟨(h6 _ (List.getElem_mem hj')).1,(h6 _ (List.getElem_mem hj')).2,h5 _ (List.getElem_mem hj')⟩
theorem all_below {M:List (List Q3)} (h:isCh M):∀q∈M.flatten,low q/\below 200 q:=fun q hq=>by
 obtain⟨r,hr,hq⟩:=List.mem_flatten.1 hq;exact(h.2.2 r hr).1 q hq
theorem flat_len {M:List (List Q3)} (h:isM M):M.flatten.length<=144:=by
 have key:∀(L:List (List Q3)) (n:Nat),(∀r∈L,r.length=n)->L.flatten.length=L.length*n:=by
  intro L n
  induction L with
  |nil=>intro _;simp
  |cons r L ih=>
   intro hL;rw[List.flatten_cons,List.length_append,hL r (List.mem_cons_self ..),ih fun q hq=>hL q (List.mem_cons_of_mem _ hq),List.length_cons,Nat.succ_mul,Nat.add_comm]
 rw[key M M.length fun r hr=>(h.2 r hr).1];exact Nat.mul_le_mul h.1 h.1
theorem mq_mem {M:List (List Q3)} (h:isCh M) {i j:Nat} (hi:i<M.length) (hj:j<M.length):mq M i j∈M.flatten:=by
 have e:M.getD i []=M[i]:=by simp [List.getD_eq_getElem?_getD,hi]
 have:=(h.2.1.2 _ (List.getElem_mem hi)).1;have hj':j<M[i].length:=by omega
 refine List.mem_flatten.2 ⟨M[i],List.getElem_mem hi,?_⟩;unfold mq;rw[e,List.getD_eq_getElem?_getD,List.getElem?_eq_getElem hj'];exact List.getElem_mem hj'
end Go.Cm
end
section
set_option linter.unusedVariables false
namespace Go.Cm
def ker (a:Nat->Nat->Rat) (n:Nat) (x:Nat->Rat):Prop:=∀i,i<n->sm (n+1) (fun j=>a i j*x j)=0
def nons (a:Nat->Nat->Rat) (n:Nat):Prop:=∀x,ker a n x->x n=0->∀j,j<n->x j=0
def tri (full:Bool) (a:Nat->Nat->Rat) (n k:Nat):Prop:=∀c,c<k->a c c≠0/\∀i,i<n->(c<i\/full=true/\i≠c)->a i c=0
def comb (a:Nat->Nat->Rat) (k:Nat) (f:Nat->Rat):Nat->Nat->Rat:=fun i j=>a i j - f i*a k j
theorem comb_ker {a:Nat->Nat->Rat} {k n:Nat} {f:Nat->Rat} (hf:f k=0) (hk:k<n) (x:Nat->Rat):ker (comb a k f) n x↔ker a n x:=by
 have e:∀i,sm (n+1) (fun j=>comb a k f i j*x j)=sm (n+1) (fun j=>a i j*x j) - f i*sm (n+1) (fun j=>a k j*x j):=fun i=>by
  rw[<-sm_mul,<-sm_sub];apply sm_congr;intro j _;unfold comb;grind
 have ek:sm (n+1) (fun j=>comb a k f k j*x j)=sm (n+1) (fun j=>a k j*x j):=by
  rw[e k,hf];grind
 constructor
 ·intro h i hi;have h1:=h i hi;have h2:=h k hk;rw[ek]at h2;rw[e i,h2]at h1;grind
 ·intro h i hi;rw[e i,h i hi,h k hk];grind
def sw (k l i:Nat):Nat:=if i=k then l else if i=l then k else i
theorem sw_lt {k l i n:Nat} (hk:k<n) (hl:l<n) (hi:i<n):sw k l i<n:=by
 unfold sw;split
 ·exact hl
 ·split<;>assumption
theorem sw_sw (k l i:Nat):sw k l (sw k l i)=i:=by
 unfold sw
 by_cases h1:i=k
 ·subst h1;rw[if_pos rfl]
  by_cases h2:l=i
  ·rw[if_pos h2,h2]
  ·rw[if_neg h2,if_pos rfl]
 ·rw[if_neg h1]
  by_cases h2:i=l
  ·rw[if_pos h2,if_pos rfl,h2]
  ·rw[if_neg h2,if_neg h1,if_neg h2]
theorem sw_ker {a:Nat->Nat->Rat} {k l n:Nat} (hk:k<n) (hl:l<n) (x:Nat->Rat):ker (fun i=>a (sw k l i)) n x↔ker a n x:=by
 constructor
 ·intro h i hi;have:=h (sw k l i) (sw_lt hk hl hi);dsimp only at this;rwa [sw_sw]at this
 ·intro h i hi;exact h (sw k l i) (sw_lt hk hl hi)
theorem sw_tri {full:Bool} {a:Nat->Nat->Rat} {k l n:Nat} (h:tri full a n k) (hk:k<n) (hl:k<=l) (hn:l<n):tri full (fun i=>a (sw k l i)) n k:=by
 intro c hc;obtain⟨h1,h2⟩:=h c hc;have ec:sw k l c=c:=by
  unfold sw;rw[if_neg (by omega),if_neg (by omega)]
 refine⟨by show a (sw k l c) c≠0;rw[ec];exact h1,fun i hi hd=> ?_⟩;show a (sw k l i) c=0;apply h2 _ (sw_lt hk hn hi);have hne:i≠c:=by
  rcases hd with hd|hd
  ·omega
  ·exact hd.2
 unfold sw;split
 ·left;omega
 ·split
  ·left;omega
  ·exact hd
theorem tri_vec {a:Nat->Nat->Rat} {n k:Nat} (hk:k<n) (h:tri false a n k):∀m,m<=k->∃x:Nat->Rat,x k=1/\(∀j,k<j->x j=0)/\∀i,k - m<=i->i<k->sm (n+1) (fun j=>a i j*x j)=0
 |0,_=>⟨fun j=>if j=k then 1 else 0,by simp,fun j hj=>if_neg (by omega),fun i h1 h2=>by omega⟩
 |m+1,hm=>by
  obtain⟨x,x1,x2,x3⟩:=tri_vec hk h m (by omega);have hc:k - (m+1)<k:=by omega
  generalize hce:k - (m+1)=c at*;obtain⟨p,z⟩:=h c hc;refine⟨fun j=>if j=c then x c - sm (n+1) (fun j=>a c j*x j)/a c c else x j,by simp [show k≠c by omega,x1],fun j hj=>(if_neg (by omega)).trans (x2 j hj),fun i h1 h2=> ?_⟩;have e:sm (n+1) (fun j=>a i j*(if j=c then x c - sm (n+1) (fun j=>a c j*x j)/a c c else x j))=sm (n+1) (fun j=>a i j*x j) - a i c*(sm (n+1) (fun j=>a c j*x j)/a c c):=by
   have:=sm_one (fun j=>a i j*(sm (n+1) (fun j=>a c j*x j)/a c c)) c (n+1);rw[if_pos (by omega)]at this;rw[<-this,<-sm_sub];apply sm_congr;intro j _
   by_cases hj:j=c
   ·subst hj;rw[if_pos rfl,if_pos rfl];grind
   ·rw[if_neg hj,if_neg hj];grind
  rw[e]
  by_cases hi:i=c
  ·subst hi;have:a i i*(sm (n+1) (fun j=>a i j*x j)/a i i)=sm (n+1) (fun j=>a i j*x j):=by
    rw[Rat.mul_comm,Rat.div_mul_cancel p]
   rw[this];grind
  ·rw[z i (by omega) (Or.inl (by omega)),x3 i (by omega) h2];grind
theorem tri_less {full:Bool} {a:Nat->Nat->Rat} {n k:Nat} (h:tri full a n k):tri false a n k:=fun c hc=>⟨(h c hc).1,fun i hi hd=>(h c hc).2 i hi (Or.inl (by
 rcases hd with hd|hd
 ·exact hd
 ·cases hd.1))⟩
theorem pivot_ex {full:Bool} {a:Nat->Nat->Rat} {n k:Nat} (hk:k<n) (ht:tri full a n k) (hn:nons a n):∃i,k<=i/\i<n/\a i k≠0:=by
 apply Classical.byContradiction;intro hno;have hz:∀i,k<=i->i<n->a i k=0:=fun i h1 h2=>Classical.byContradiction fun h3=>hno ⟨i,h1,h2,h3⟩
 obtain⟨x,x1,x2,x3⟩:=tri_vec hk (tri_less ht) k (Nat.le_refl _);have hx:ker a n x:=by
  intro i hi
  by_cases hik:i<k
  ·exact x3 i (by omega) hik
  ·have:sm (n+1) (fun j=>a i j*x j)=sm (n+1) (fun _=>0):=by
    apply sm_congr;intro j _
    by_cases h1:j<k
    ·rw[(tri_less ht j h1).2 i hi (Or.inl (by omega)),Rat.zero_mul]
    ·by_cases h2:j=k
     ·subst h2;rw[hz i (by omega) hi,Rat.zero_mul]
     ·rw[x2 j (by omega),Rat.mul_zero]
   rw[this,sm_zero]
 have:=hn x hx (x2 n hk) k hk;rw[x1]at this;exact absurd this (by decide)
theorem comb_tri {full:Bool} {a:Nat->Nat->Rat} {n k:Nat} (hk:k<n) (ht:tri full a n k) (hp:a k k≠0):tri full (comb a k fun i=>if(k<i\/full=true/\i≠k)then a i k/a k k else 0) n (k+1):=by
 intro c hc
 by_cases hck:c=k
 ·subst hck;refine⟨?_,fun i hi hd=> ?_⟩
  ·unfold comb;dsimp only;rw[if_neg (fun h=>by
    rcases h with h|h
    ·omega
    ·exact h.2 rfl)]
   have:a c c - 0*a c c=a c c:=by grind
   rw[this];exact hp
  ·unfold comb;dsimp only;rw[if_pos hd,Rat.div_mul_cancel hp];grind
 ·have hc':c<k:=by omega
  obtain⟨h1,h2⟩:=ht c hc';have hz:a k c=0:=h2 k hk (Or.inl hc');refine⟨?_,fun i hi hd=> ?_⟩
  ·unfold comb;rw[hz,Rat.mul_zero];have:a c c - 0=a c c:=by grind
   rw[this];exact h1
  ·unfold comb;rw[hz,Rat.mul_zero,h2 i hi hd];grind
theorem nons_of {a b:Nat->Nat->Rat} {n:Nat} (h:∀x,ker b n x->ker a n x) (hn:nons a n):nons b n:=fun x hx h0=>hn x (h x hx) h0
theorem full_sol {a:Nat->Nat->Rat} {n:Nat} (h:tri true a n n):ker a n fun j=>if j=n then -1 else a j n/a j j:=by
 intro i hi;have e:sm n (fun j=>a i j*(if j=n then -1 else a j n/a j j))=a i n:=by
  have:=sm_one (fun j=>a j n) i n;rw[if_pos hi]at this;rw[<-this];apply sm_congr;intro j hj;rw[if_neg (by omega)]
  by_cases hji:j=i
  ·subst hji;rw[if_pos rfl,Rat.mul_comm,Rat.div_mul_cancel (h j hj).1]
  ·rw[if_neg hji,(h j hj).2 i hi (Or.inr ⟨rfl,fun q=>hji q.symm⟩),Rat.zero_mul]
 rw[sm,e];dsimp only;rw[if_pos rfl];grind
def pvF (p:Nat->Bool):Nat->Nat->Nat
 |0,i=>i
 |f+1,i=>if p i=true then i else pvF p f (i+1)
theorem pvF_ok (p:Nat->Bool):∀(f i:Nat),i<=pvF p f i/\pvF p f i<=i+f/\((∃j,i<=j/\j<i+f/\p j=true)->pvF p f i<i+f/\p (pvF p f i)=true)
 |0,i=>⟨Nat.le_refl _,Nat.le_refl _,fun⟨j,h1,h2,_⟩=>by omega⟩
 |f+1,i=>by
  unfold pvF
  by_cases h:p i=true
  ·rw[if_pos h];exact⟨Nat.le_refl _,by omega,fun _=>⟨by omega,h⟩⟩
  ·rw[if_neg h];obtain⟨a,b,c⟩:=pvF_ok p f (i+1);refine⟨by omega,by omega,fun⟨j,h1,h2,h3⟩=> ?_⟩;have hj:j≠i:=fun e=>h (e▸h3)
   obtain⟨d,e⟩:=c ⟨j,by omega,by omega,h3⟩;exact⟨by omega,e⟩
def pvt (a:Nat->Nat->Q3) (n k:Nat):Nat:=pvF (fun i=>decide ((a i k).2.1≠0)) (n - k) k
def elE (a:Nat->Nat->Q3) (k i j:Nat):Q3:=addQ (a i j) (oppQ (mulQ (overQ (a i k) (a k k)) (a k j)))
def elF (full:Bool) (a:Nat->Nat->Q3) (k:Nat):Nat->Nat->Q3:=fun i j=>
 if(k<i\/full=true/\i≠k)/\(a i k).2.1≠0/\k<=j then elE a k i j else a i j
def swQ (a:Nat->Nat->Q3) (k l:Nat):Nat->Nat->Q3:=fun i=>a (sw k l i)
def elim (full:Bool) (n:Nat) (a:Nat->Nat->Q3):Nat->Nat->Nat->Q3
 |0=>a
 |k+1=>elF full (swQ (elim full n a k) k (pvt (elim full n a k) n k)) k
def vals (a:Nat->Nat->Q3):Nat->Nat->Rat:=fun i j=>qv (a i j)
def lowM (a:Nat->Nat->Q3) (n:Nat):Prop:=∀i,i<n->∀j,j<=n->low (a i j)
theorem ne_qv {r:Q3} (h:low r):r.2.1≠0↔qv r≠0:=by rw[Ne,Ne,qv_zero_iff h]
theorem elE_low {a:Nat->Nat->Q3} {n k i j:Nat} (h:lowM a n) (hk:k<n) (hi:i<n) (hj:j<=n) (hp:(a k k).2.1≠0):low (elE a k i j)/\qv (elE a k i j)=vals a i j - vals a i k/vals a k k*vals a k j:=by
 have l1:=h i hi j hj;have l2:=h i hi k (by omega);have l3:=h k hk k (by omega);have l4:=h k hk j hj;have lf:=overQ_low _ _ l2 l3 hp;have lm:=mulQ_low _ _ lf l4;have lo:=oppQ_low _ lm;refine⟨addQ_low _ _ l1 lo,?_⟩;unfold elE vals;rw[qv_add l1 lo,qv_opp lm,qv_mul lf l4,qv_over l2 l3 hp];grind
theorem elF_vals {full:Bool} {a:Nat->Nat->Q3} {n k:Nat} (h:lowM a n) (hk:k<n) (ht:tri full (vals a) n k) (hp:(a k k).2.1≠0):lowM (elF full a k) n/\∀i,i<n->∀j,j<=n->vals (elF full a k) i j=comb (vals a) k (fun i=>if(k<i\/full=true/\i≠k)then vals a i k/vals a k k else 0) i j:=by
 have key:∀i,i<n->∀j,j<=n->low (elF full a k i j)/\qv (elF full a k i j)=comb (vals a) k (fun i=>if(k<i\/full=true/\i≠k)then vals a i k/vals a k k else 0) i j:=fun i hi j hj=>by
  unfold elF comb;dsimp only
  by_cases h1:k<i\/full=true/\i≠k
  ·rw[if_pos h1]
   by_cases h2:(a i k).2.1≠0/\k<=j
   ·rw[if_pos ⟨h1,h2⟩];exact elE_low h hk hi hj hp
   ·rw[if_neg (fun q=>h2 q.2)];refine⟨h i hi j hj,?_⟩
    by_cases h3:(a i k).2.1=0
    ·have:vals a i k=0:=(qv_zero_iff (h i hi k (by omega))).2 h3;rw[this];show vals a i j=_;grind
    ·have hjk:j<k:=by
      apply Classical.byContradiction;intro q;exact h2 ⟨h3,by omega⟩
     have:vals a k j=0:=(ht j hjk).2 k hk (Or.inl hjk);rw[this];show vals a i j=_;grind
  ·rw[if_neg h1,if_neg (fun q=>h1 q.1)];refine⟨h i hi j hj,?_⟩;show vals a i j=_;grind
 exact⟨fun i hi j hj=>(key i hi j hj).1,fun i hi j hj=>(key i hi j hj).2⟩
theorem ker_congr {a b:Nat->Nat->Rat} {n:Nat} (h:∀i,i<n->∀j,j<=n->a i j=b i j) (x:Nat->Rat):ker a n x↔ker b n x:=by
 have e:∀i,i<n->sm (n+1) (fun j=>a i j*x j)=sm (n+1) (fun j=>b i j*x j):=fun i hi=>by
  apply sm_congr;intro j hj;rw[h i hi j (by omega)]
 exact⟨fun q i hi=>by rw[<-e i hi];exact q i hi,fun q i hi=>by rw[e i hi];exact q i hi⟩
theorem tri_congr {full:Bool} {a b:Nat->Nat->Rat} {n k:Nat} (hk:k<=n) (h:∀i,i<n->∀j,j<=n->a i j=b i j) (ht:tri full a n k):tri full b n k:=fun c hc=>
 ⟨by rw[<-h c (by omega) c (by omega)];exact(ht c hc).1,fun i hi hd=>by rw[<-h i hi c (by omega)];exact(ht c hc).2 i hi hd⟩
theorem elim_ok {full:Bool} {n:Nat} {a:Nat->Nat->Q3} (h:lowM a n) (hn:nons (vals a) n):∀k,k<=n->lowM (elim full n a k) n/\tri full (vals (elim full n a k)) n k/\(∀x,ker (vals (elim full n a k)) n x↔ker (vals a) n x)/\(∀l,l<k->l<=pvt (elim full n a l) n l/\pvt (elim full n a l) n l<n/\(elim full n a l (pvt (elim full n a l) n l) l).2.1≠0)
 |0,_=>⟨h,fun c hc=>by omega,fun x=>Iff.rfl,fun l hl=>by omega⟩
 |k+1,hk=>by
  obtain⟨i1,i2,i3,i4⟩:=elim_ok (full:=full) h hn k (by omega);have hnk:nons (vals (elim full n a k)) n:=nons_of (fun x hx=>(i3 x).1 hx) hn;obtain⟨l,l1,l2,l3⟩:=pivot_ex (by omega:k<n) i2 hnk;have hpv:=pvF_ok (fun i=>decide ((elim full n a k i k).2.1≠0)) (n - k) k;have hp:k<=pvt (elim full n a k) n k/\pvt (elim full n a k) n k<n/\(elim full n a k (pvt (elim full n a k) n k) k).2.1≠0:=by
   obtain⟨p1,p2,p3⟩:=hpv;obtain⟨p4,p5⟩:=p3 ⟨l,l1,by omega,decide_eq_true ((ne_qv (i1 l l2 k (by omega))).2 l3)⟩;exact⟨p1,by unfold pvt;omega,of_decide_eq_true p5⟩
  have i4':∀l,l<k+1->l<=pvt (elim full n a l) n l/\pvt (elim full n a l) n l<n/\(elim full n a l (pvt (elim full n a l) n l) l).2.1≠0:=fun m hm=>by
   by_cases e:m=k
   ·subst e;exact hp
   ·exact i4 m (by omega)
  rw[elim];generalize elim full n a k=b at*;generalize pvt b n k=p at*;obtain⟨p1,p2,p3⟩:=hp;have s1:lowM (swQ b k p) n:=fun i hi j hj=>i1 _ (sw_lt (by omega) p2 hi) j hj
  have s2:tri full (vals (swQ b k p)) n k:=sw_tri i2 (by omega) p1 p2;have s3:∀x,ker (vals (swQ b k p)) n x↔ker (vals b) n x:=sw_ker (a:=vals b) (k:=k) (l:=p) (by omega) p2;have s4:(swQ b k p k k).2.1≠0:=by
   unfold swQ sw;rw[if_pos rfl];exact p3
  have hk':k<n:=by omega
  obtain⟨v1,v2⟩:=elF_vals (full:=full) s1 hk' s2 s4;have hpp:vals (swQ b k p) k k≠0:=(ne_qv (s1 k hk' k (by omega))).1 s4;refine⟨v1,tri_congr hk (fun i hi j hj=>(v2 i hi j hj).symm) (comb_tri hk' s2 hpp),fun x=> ?_,i4'⟩;rw[ker_congr v2 x,comb_ker (by
   show(if(k<k\/full=true/\k≠k)then _ else(0:Rat))=0;rw[if_neg (fun h=>by
    rcases h with h|h
    ·omega
    ·exact h.2 rfl)]) hk',s3,i3]
end Go.Cm
end
section
set_option linter.unusedVariables false
namespace Go.Cm
def rowB (a:Nat->Nat->Q3) (n i H:Nat):Prop:=∃d,d<=H/\∀j,j<=n->hd d H (a i j)
theorem rowB_mono {a:Nat->Nat->Q3} {n i H G:Nat} (h:rowB a n i H) (hg:H<=G):rowB a n i G:=by
 obtain⟨d,h1,h2⟩:=h;exact⟨d,by omega,fun j hj=>hd_mono (h2 j hj) hg⟩
theorem rowB_low {a:Nat->Nat->Q3} {n i H:Nat} (h:rowB a n i H):∀j,j<=n->low (a i j):=fun j hj=>by
 obtain⟨d,h1,h2⟩:=h;exact(h2 j hj).1
theorem hd_over {D H E G:Nat} {x y:Q3} (hx:hd D H x) (hy:hd E G y) (h0:y.2.1≠0):∃z:Int,qv y*(E:Rat)=(z:Rat)/\z≠0/\z.natAbs<=G/\hd (D*z.natAbs) (H*E) (overQ x y):=by
 obtain⟨a,b,z,c,d⟩:=hx;obtain⟨a',b',z',c',d'⟩:=hy;have hy0:qv y≠0:=(ne_qv a').1 h0;have hE:((E:Nat):Rat)≠0:=by
  have:(0:Rat)<((E:Nat):Rat):=Rat.natCast_pos.2 b';grind
 have hz:z'≠0:=fun e=>by
  rw[e]at c';have:qv y*(E:Rat)=0:=c';rcases Rat.mul_eq_zero.1 this with h|h
  ·exact hy0 h
  ·exact hE h
 refine⟨z',c',hz,d',overQ_low _ _ a a' h0,Nat.mul_pos b (by omega),z*(E:Int)*z'.sign,?_,?_⟩
 ·have e1:((z'.natAbs:Nat):Rat)=(z':Rat)*((z'.sign:Int):Rat):=by
   rw[<-Rat.intCast_mul,Int.mul_sign_self];exact(Rat.intCast_natCast _).symm
  rw[qv_over a a' h0,Rat.natCast_mul,e1,Rat.intCast_mul,Rat.intCast_mul,<-c,<-c',Rat.intCast_natCast];have:qv x/qv y*qv y=qv x:=Rat.div_mul_cancel hy0;grind
 ·rw[Int.natAbs_mul,Int.natAbs_mul,Int.natAbs_sign_of_ne_zero hz,Nat.mul_one];simp only[Int.natAbs_natCast];exact Nat.mul_le_mul_right _ d
theorem el_row {a:Nat->Nat->Q3} {n k i H:Nat} (hi:rowB a n i H) (hk:rowB a n k H) (hkn:k<=n) (hp:(a k k).2.1≠0):
  (∃D,D<=H*H/\∀j,j<=n->hd D (2*(H*H)) (elE a k i j))/\(∃D,D<=H*H/\hd D (H*H) (overQ (a i k) (a k k)))/\∀j,j<=n->∃D,D<=H*H*H/\hd D (H*H*H) (mulQ (overQ (a i k) (a k k)) (a k j)):=by
 obtain⟨d,d1,d2⟩:=hi;obtain⟨e,e1,e2⟩:=hk;obtain⟨z,z1,z2,z3,z4⟩:=hd_over (d2 k hkn) (e2 k hkn) hp;have hD:d*z.natAbs<=H*H:=Nat.mul_le_mul d1 z3;have hf:hd (d*z.natAbs) (H*H) (overQ (a i k) (a k k)):=hd_mono z4 (Nat.mul_le_mul_left _ e1);refine⟨⟨d*z.natAbs,hD,fun j hj=> ?_⟩,⟨_,hD,hf⟩,fun j hj=>⟨_,Nat.mul_le_mul hD e1,hd_mul hf (e2 j hj)⟩⟩;have l1:=(d2 j hj).1;have lk:=(d2 k hkn).1;have lp:=(e2 k hkn).1;have lj:=(e2 j hj).1;have lf:=z4.1;have lm:=mulQ_low _ _ lf lj;obtain⟨_,b,zi,ci,di⟩:=d2 j hj;obtain⟨_,_,zk,ck,dk⟩:=d2 k hkn;obtain⟨_,be,zj,cj,dj⟩:=e2 j hj;have hy0:qv (a k k)≠0:=(ne_qv lp).1 hp;refine⟨addQ_low _ _ l1 (oppQ_low _ lm),Nat.mul_pos b (by omega),(zi*z - zk*zj)*z.sign,?_,?_⟩
 ·have q1:((z.natAbs:Nat):Rat)=(z:Rat)*((z.sign:Int):Rat):=by
   rw[<-Rat.intCast_mul,Int.mul_sign_self];exact(Rat.intCast_natCast _).symm
  unfold elE;rw[qv_add l1 (oppQ_low _ lm),qv_opp lm,qv_mul lf lj,qv_over lk lp hp,Rat.natCast_mul,q1,Rat.intCast_mul,Rat.intCast_sub,Rat.intCast_mul,Rat.intCast_mul,<-ci,<-ck,<-cj,<-z1];have:qv (a i k)/qv (a k k)*qv (a k k)=qv (a i k):=Rat.div_mul_cancel hy0;grind
 ·rw[Int.natAbs_mul,Int.natAbs_sign_of_ne_zero z2,Nat.mul_one];have t1:(zi*z - zk*zj).natAbs<=(zi*z).natAbs+(zk*zj).natAbs:=Int.natAbs_sub_le _ _;have t2:(zi*z).natAbs<=H*H:=by
   rw[Int.natAbs_mul];exact Nat.mul_le_mul di z3
  have t3:(zk*zj).natAbs<=H*H:=by
   rw[Int.natAbs_mul];exact Nat.mul_le_mul dk dj
  omega
def gB (c k:Nat):Nat:=10^(2^k*c - 1)
theorem gB_pos (c k:Nat):0<gB c k:=Nat.pow_pos (by decide)
theorem gB_mono {c k l:Nat} (h:k<=l):gB c k<=gB c l:=Nat.pow_le_pow_right (by decide) (Nat.sub_le_sub_right (Nat.mul_le_mul_right _ (Nat.pow_le_pow_right (by decide) h)) _)
theorem gB_step {c k:Nat} (hc:0<c):2*(gB c k*gB c k)<=gB c (k+1):=by
 unfold gB;have h1:0<2^k*c:=Nat.mul_pos (Nat.pow_pos (by decide)) hc;have e:2^(k+1)*c - 1=(2^k*c - 1)+(2^k*c - 1)+1:=by
  rw[Nat.pow_succ];have:2^k*2*c=2*(2^k*c):=by rw[Nat.mul_comm (2^k) 2,Nat.mul_assoc]
  omega
 rw[e,Nat.pow_succ,Nat.pow_add];omega
def rowsB (a:Nat->Nat->Q3) (n c k:Nat):Prop:=∀i,i<n->rowB a n i (gB c k)
theorem elF_rows {full:Bool} {a:Nat->Nat->Q3} {n c k:Nat} (hc:0<c) (h:rowsB a n c k) (hk:k<n) (hp:(a k k).2.1≠0) (hz:∀j,j<k->qv (a k j)=0):rowsB (elF full a k) n c (k+1):=by
 intro i hi
 by_cases hc1:(k<i\/full=true/\i≠k)/\(a i k).2.1≠0
 ·obtain⟨⟨D,D1,D2⟩,_,_⟩:=el_row (h i hi) (h k hk) (by omega) hp;have hg:=gB_step (k:=k) hc;refine⟨D,by omega,fun j hj=> ?_⟩
  by_cases hkj:k<=j
  ·unfold elF;rw[if_pos ⟨hc1.1,hc1.2,hkj⟩];exact hd_mono (D2 j hj) hg
  ·have hh:hd D (2*(gB c k*gB c k)) (elE a k i j):=D2 j hj;have he:elF full a k i j=a i j:=by
    unfold elF;rw[if_neg (fun q=>hkj q.2.2)]
   have hv:elE a k i j=a i j:=by
    have l1:=rowB_low (h i hi) j hj;have l2:=rowB_low (h i hi) k (by omega);have l3:=rowB_low (h k hk) k (by omega);have l4:=rowB_low (h k hk) j hj;have lf:=overQ_low _ _ l2 l3 hp;have lm:=mulQ_low _ _ lf l4;apply qv_inj (addQ_low _ _ l1 (oppQ_low _ lm)) l1;rw[qv_add l1 (oppQ_low _ lm),qv_opp lm,qv_mul lf l4,hz j (by omega)];grind
   rw[he,<-hv];exact hd_mono hh hg
 ·refine rowB_mono ?_ (gB_mono (Nat.le_succ k));obtain⟨d,d1,d2⟩:=h i hi;refine⟨d,d1,fun j hj=> ?_⟩;unfold elF;rw[if_neg (fun q=>hc1 ⟨q.1,q.2.1⟩)];exact d2 j hj
theorem elim_rows {full:Bool} {n c:Nat} {a:Nat->Nat->Q3} (hc:0<c) (h0:rowsB a n c 0) (hn:nons (vals a) n):∀k,k<=n->rowsB (elim full n a k) n c k
 |0,_=>h0
 |k+1,hk=>by
  have hl:lowM a n:=fun i hi j hj=>rowB_low (h0 i hi) j hj
  have ih:=elim_rows (full:=full) hc h0 hn k (by omega);obtain⟨i1,i2,i3,_⟩:=elim_ok (full:=full) hl hn k (by omega);obtain⟨_,_,_,i4⟩:=elim_ok (full:=full) hl hn (k+1) hk;obtain⟨p1,p2,p3⟩:=i4 k (by omega);rw[elim];have hsw:rowsB (swQ (elim full n a k) k (pvt (elim full n a k) n k)) n c k:=fun i hi=>by
   have hs:sw k (pvt (elim full n a k) n k) i<n:=sw_lt (by omega) p2 hi;exact ih _ hs
  have hkk:sw k (pvt (elim full n a k) n k) k=pvt (elim full n a k) n k:=by
   unfold sw;rw[if_pos rfl]
  refine elF_rows hc hsw (by omega) ?_ fun j hj=> ?_
  ·unfold swQ;rw[hkk];exact p3
  ·unfold swQ;rw[hkk];exact(i2 j hj).2 _ p2 (Or.inl (by omega))
def eB (H m:Nat):Nat:=(12*(H*H))^m
def solS (a:Nat->Nat->Q3) (n:Nat):Nat->Q3:=fun i=>overQ (elim true n a n i n) (elim true n a n i i)
def ext (n:Nat) (x:Nat->Rat):Nat->Rat:=fun j=>if j=n then -1 else x j
theorem solS_ok {a:Nat->Nat->Q3} {n:Nat} (h:lowM a n) (hn:nons (vals a) n):(∀i,i<n->low (solS a n i))/\ker (vals a) n (ext n fun j=>qv (solS a n j)):=by
 obtain⟨i1,i2,i3,_⟩:=elim_ok (full:=true) h hn n (Nat.le_refl _);have hp:∀i,i<n->(elim true n a n i i).2.1≠0:=fun i hi=>(ne_qv (i1 i hi i (by omega))).2 (i2 i hi).1
 refine⟨fun i hi=>overQ_low _ _ (i1 i hi n (Nat.le_refl _)) (i1 i hi i (by omega)) (hp i hi),(i3 _).1 ?_⟩;have:=full_sol i2;have e:∀i,i<n->sm (n+1) (fun j=>vals (elim true n a n) i j*ext n (fun j=>qv (solS a n j)) j)=sm (n+1) (fun j=>vals (elim true n a n) i j*(if j=n then -1 else vals (elim true n a n) j n/vals (elim true n a n) j j)):=fun i hi=>by
  apply sm_congr;intro j hj;congr 1;unfold ext
  by_cases hjn:j=n
  ·rw[if_pos hjn,if_pos hjn]
  ·rw[if_neg hjn,if_neg hjn];exact qv_over (i1 j (by omega) n (Nat.le_refl _)) (i1 j (by omega) j (by omega)) (hp j (by omega))
 intro i hi;rw[e i hi];exact this i hi
theorem sol_uniq {a:Nat->Nat->Rat} {n:Nat} (hn:nons a n) {x y:Nat->Rat} (hx:ker a n (ext n x)) (hy:ker a n (ext n y)):∀j,j<n->x j=y j:=by
 intro j hj;have:=hn (fun j=>ext n x j - ext n y j) (fun i hi=>by
  have e:sm (n+1) (fun j=>a i j*(ext n x j - ext n y j))=sm (n+1) (fun j=>a i j*ext n x j) - sm (n+1) (fun j=>a i j*ext n y j):=by
   rw[<-sm_sub];apply sm_congr;intro j _;grind
  rw[e,hx i hi,hy i hi];grind) (by unfold ext;rw[if_pos rfl];grind) j hj
 unfold ext at this;rw[if_neg (by omega),if_neg (by omega)]at this;grind
end Go.Cm
end
section
set_option linter.unusedVariables false
namespace Go.Cm
inductive Rch (A:Nat->Nat->Bool) (n s:Nat):Nat->Prop where
 |refl:Rch A n s s
 |step {i j:Nat} :Rch A n s i->i<n->j<n->A i j=true->Rch A n s j
theorem Rch.trans {A:Nat->Nat->Bool} {n s i j:Nat} (h:Rch A n s i) (k:Rch A n i j):Rch A n s j:=by
 induction k with
 |refl=>exact h
 |step _ a b c ih=>exact .step ih a b c
theorem Rch.lt {A:Nat->Nat->Bool} {n s i:Nat} (h:Rch A n s i) (hs:s<n):i<n:=by
 cases h with
 |refl=>exact hs
 |step _ _ b _=>exact b
structure Bin (A:Nat->Nat->Bool) (n s:Nat) (sn:List Bool) (td:List Nat):Prop where
 ok:Bok n (sn,td)
 sound:∀j,sn.getD j false=true->Rch A n s j
 todo:∀t∈td,sn.getD t false=true
 done:∀i,i<n->sn.getD i false=true->i∈td\/∀j,j<n->A i j=true->sn.getD j false=true
theorem getDset {sn:List Bool} {i j:Nat} (h:i<sn.length):(sn.set i true).getD j false=(decide (j=i)||sn.getD j false):=by
 rw[List.getD_eq_getElem?_getD,List.getD_eq_getElem?_getD,List.getElem?_set]
 by_cases e:i=j
 ·subst e;simp [h]
 ·rw[if_neg e,decide_eq_false (fun q=>e q.symm),Bool.false_or]
theorem fold_in {A:Nat->Nat->Bool} {n s i:Nat} {sn:List Bool} {td:List Nat} (hi:i<n) (hs:sn.getD i false=true) (h:Bin A n s sn (i::td)):∀k,k<=n->
  Bok n ((List.range k).foldl (stepB (A i)) (sn,td))/\(∀j,((List.range k).foldl (stepB (A i)) (sn,td)).1.getD j false=true->Rch A n s j)/\(∀t∈((List.range k).foldl (stepB (A i)) (sn,td)).2,((List.range k).foldl (stepB (A i)) (sn,td)).1.getD t false=true)/\
  (∀j,sn.getD j false=true->((List.range k).foldl (stepB (A i)) (sn,td)).1.getD j false=true)/\(∀j,j<k->A i j=true->((List.range k).foldl (stepB (A i)) (sn,td)).1.getD j false=true)/\
  (∀t∈td,t∈((List.range k).foldl (stepB (A i)) (sn,td)).2)/\(∀j,((List.range k).foldl (stepB (A i)) (sn,td)).1.getD j false=true->sn.getD j false=true\/j∈((List.range k).foldl (stepB (A i)) (sn,td)).2)
 |0,_=>⟨⟨h.ok.len,fun t ht=>h.ok.lt t (List.mem_cons_of_mem _ ht)⟩,h.sound,fun t ht=>h.todo t (List.mem_cons_of_mem _ ht),fun _ q=>q,fun j hj=>by omega,fun _ q=>q,fun _ q=>Or.inl q⟩
 |k+1,hk=>by
  obtain⟨a1,a2,a3,a4,a5,a6,a7⟩:=fold_in hi hs h k (by omega);rw[fold_succ];generalize (List.range k).foldl (stepB (A i)) (sn,td)=p at*;have b1:=(stepB_ok (a:=A i) (j:=k) (by omega) a1).1;have hl:k<p.1.length:=by rw[a1.len];omega
  unfold stepB at b1 ⊢
  by_cases hc:A i k=true/\p.1.getD k false=false
  ·rw[if_pos hc]at b1 ⊢;refine⟨b1,fun j hj=> ?_,fun t ht=> ?_,fun j hj=> ?_,fun j hj ha=> ?_,fun t ht=>List.mem_append_left _ (a6 t ht),fun j hj=> ?_⟩
   ·dsimp only at hj;rw[getDset hl,Bool.or_eq_true,decide_eq_true_iff]at hj;rcases hj with rfl|hj
    ·exact .step (h.sound i hs) hi (by omega) hc.1
    ·exact a2 j hj
   ·dsimp only at ht ⊢;rw[getDset hl,Bool.or_eq_true,decide_eq_true_iff];rcases List.mem_append.1 ht with ht|ht
    ·exact Or.inr (a3 t ht)
    ·exact Or.inl (by simpa using ht)
   ·dsimp only;rw[getDset hl,a4 j hj,Bool.or_true]
   ·dsimp only;rw[getDset hl,Bool.or_eq_true,decide_eq_true_iff]
    by_cases e:j=k
    ·exact Or.inl e
    ·exact Or.inr (a5 j (by omega) ha)
   ·dsimp only at hj ⊢;rw[getDset hl,Bool.or_eq_true,decide_eq_true_iff]at hj;rcases hj with rfl|hj
    ·exact Or.inr (by simp)
    ·rcases a7 j hj with q|q
     ·exact Or.inl q
     ·exact Or.inr (List.mem_append_left _ q)
  ·rw[if_neg hc]at b1 ⊢;refine⟨b1,a2,a3,a4,fun j hj ha=> ?_,a6,a7⟩
   by_cases e:j=k
   ·subst e;cases hv:p.1.getD j false
    ·exact(hc ⟨ha,hv⟩).elim
    ·rfl
   ·exact a5 j (by omega) ha
theorem bfs_in {A:Nat->Nat->Bool} {n s:Nat} :∀(f:Nat) (sn:List Bool) (td:List Nat),Bin A n s sn td->td.length+sn.count false<=f->(∀j,(bfs A n f sn td).getD j false=true->Rch A n s j)/\(∀j,sn.getD j false=true->(bfs A n f sn td).getD j false=true)/\∀i,i<n->(bfs A n f sn td).getD i false=true->∀j,j<n->A i j=true->(bfs A n f sn td).getD j false=true
 |0,sn,td,h,hm=>by
  have:td=[]:=List.eq_nil_of_length_eq_zero (by omega);subst this;exact⟨h.sound,fun _ q=>q,fun i hi hs=>(h.done i hi hs).resolve_left (by simp)⟩
 |f+1,sn,[],h,hm=>⟨h.sound,fun _ q=>q,fun i hi hs=>(h.done i hi hs).resolve_left (by simp)⟩
 |f+1,sn,i::r,h,hm=>by
  have hi:i<n:=h.ok.lt i (List.mem_cons_self ..);have hs:=h.todo i (List.mem_cons_self ..);have h':Bok n (sn,r):=⟨h.ok.len,fun t ht=>h.ok.lt t (List.mem_cons_of_mem _ ht)⟩
  obtain⟨a1,a2,a3,a4,a5,a6,a7⟩:=fold_in hi hs h n (Nat.le_refl _);obtain⟨_,c2⟩:=foldB_ok (a:=A i) h' n (Nat.le_refl _);obtain⟨q1,q2,q3⟩:=bfs_in f (scanB (A i) n (sn,r)).1 (scanB (A i) n (sn,r)).2 ⟨a1,a2,a3,fun t ht hv=>by
   by_cases e:t=i
   ·subst e;exact Or.inr a5
   ·rcases a7 t hv with q|q
    ·rcases h.done t ht q with u|u
     ·rcases List.mem_cons.1 u with u|u
      ·exact(e u).elim
      ·exact Or.inl (a6 t u)
     ·exact Or.inr fun j hj ha=>a4 j (u j hj ha)
    ·exact Or.inl q⟩ (by
   rw[List.length_cons]at hm;have:(scanB (A i) n (sn,r)).2.length+(scanB (A i) n (sn,r)).1.count false=r.length+sn.count false:=c2;omega)
  exact⟨q1,fun j hj=>q2 j (a4 j hj),q3⟩
theorem reachB_iff {A:Nat->Nat->Bool} {n s:Nat} (hs:s<n) (j:Nat):(reachB A n s).getD j false=true↔Rch A n s j:=by
 obtain⟨c1,c2⟩:=start_ok hs;have hl:s<(List.replicate n false).length:=by simpa using hs
 have e:∀j,((List.replicate n false).set s true).getD j false=decide (j=s):=fun j=>by
  rw[getDset hl];have:(List.replicate n false).getD j false=false:=by
   rw[List.getD_eq_getElem?_getD,List.getElem?_replicate];split<;>rfl
  rw[this,Bool.or_false]
 obtain⟨q1,q2,q3⟩:=bfs_in (A:=A) (s:=s) n _ _ ⟨c1,fun j hj=>by
  rw[e,decide_eq_true_iff]at hj;subst hj;exact .refl,fun t ht=>by
  rw[e];simpa using ht,fun i hi hv=>by
  rw[e,decide_eq_true_iff]at hv;exact Or.inl (by simp [hv])⟩ (Nat.le_of_eq c2)
 refine⟨q1 j,fun h=> ?_⟩
 induction h with
 |refl=>exact q2 s (by rw[e];simp)
 |step _ a b c ih=>exact q3 _ a ih _ b c
theorem ex_max (f:Nat->Rat) (p:Nat->Prop):∀n:Nat,(∃i,i<n/\p i)->∃i,i<n/\p i/\∀j,j<n->p j->f j<=f i
 |0,⟨i,h,_⟩=>by omega
 |n+1,⟨i,h,hp⟩=>by
  by_cases hn:∃i,i<n/\p i
  ·obtain⟨m,m1,m2,m3⟩:=ex_max f p n hn
   by_cases hpn:p n/\f m<=f n
   ·refine⟨n,by omega,hpn.1,fun j hj pj=> ?_⟩
    by_cases e:j=n
    ·subst e;exact Rat.le_refl
    ·exact Rat.le_trans (m3 j (by omega) pj) hpn.2
   ·refine⟨m,by omega,m2,fun j hj pj=> ?_⟩
    by_cases e:j=n
    ·subst e;rcases Rat.le_total (a:=f m) (b:=f j)with q|q
     ·exact(hpn ⟨pj,q⟩).elim
     ·exact q
    ·exact m3 j (by omega) pj
  ·have e:i=n:=by
    apply Classical.byContradiction;intro e;exact hn ⟨i,by omega,hp⟩
   subst e;refine⟨i,by omega,hp,fun j hj pj=> ?_⟩
   by_cases e:j=i
   ·subst e;exact Rat.le_refl
   ·exact(hn ⟨j,by omega,pj⟩).elim
structure Stoch (p:Nat->Nat->Rat) (n:Nat):Prop where
 nn:∀i,i<n->∀j,j<n->0<=p i j
 one:∀i,i<n->sm n (p i)=1
end Go.Cm
end
section
set_option linter.unusedVariables false
namespace Go.Cm
structure Cin (R:Nat->Nat->Bool) (n k:Nat) (s:List Int×List Bool):Prop where
 len:s.1.length=n
 cnt:s.2.length<=k
 num:∀j,j<n->s.1.getD j (-1)= -1\/0<=s.1.getD j (-1)/\s.1.getD j (-1)<(s.2.length:Int)
 rep:∀c,c<s.2.length->∃r,r<n/\(∀j,j<n->(s.1.getD j (-1)=(c:Int)↔R r j=true/\R j r=true))/\(s.2.getD c false=true↔∀j,j<n->R r j=true->R j r=true)
 all:∀j,j<k->0<=s.1.getD j (-1)
theorem cls_in {R:Nat->Nat->Bool} {n:Nat} (hr:∀i,i<n->R i i=true) (ht:∀i j k,i<n->j<n->k<n->R i j=true->R j k=true->R i k=true):∀k,k<=n->Cin R n k ((List.range k).foldl (clsStep R n) (List.replicate n (-1),[]))
 |0,_=>by
  have e:∀j,j<n->(List.replicate n (-1:Int)).getD j (-1)= -1:=fun j hj=>by simp [List.getD_eq_getElem?_getD,hj]
  exact⟨by simp,Nat.le_refl _,fun j hj=>Or.inl (e j hj),fun c hc=>by simp at hc,fun j hj=>by omega⟩
 |k+1,hk=>by
  have ih:=cls_in hr ht k (by omega);rw[fold_succ];generalize (List.range k).foldl (clsStep R n) (List.replicate n (-1),[])=s at ih ⊢;unfold clsStep
  by_cases h0:0<=s.1.getD k (-1)
  ·rw[if_pos h0]
   exact⟨ih.len,by have:=ih.cnt;omega,ih.num,ih.rep,fun j hj=>by
    by_cases e:j=k
    ·subst e;exact h0
    ·exact ih.all j (by omega)⟩
  ·rw[if_neg h0];have hk':k<n:=by omega
   have hlen:=ih.cnt;have hm1:s.1.getD k (-1)= -1:=(ih.num k hk').resolve_right fun q=>h0 q.1
   have hg:∀j,j<n->(tab n fun j=>if(R k j&&R j k)=true then(s.2.length:Int)else s.1.getD j (-1)).getD j (-1)=if(R k j&&R j k)=true then(s.2.length:Int)else s.1.getD j (-1):=fun j hj=>tab_getD _ _ hj
   have hfree:∀c,c<s.2.length->∀j,j<n->R k j=true->R j k=true->s.1.getD j (-1)≠(c:Int):=fun c hc j hj h1 h2 e=>by
    obtain⟨r,r1,r2,_⟩:=ih.rep c hc;obtain⟨a,b⟩:=(r2 j hj).1 e;have:s.1.getD k (-1)=(c:Int):=(r2 k hk').2 ⟨ht r j k r1 hj hk' a h2,ht k j r hk' hj r1 h1 b⟩;omega
   refine⟨tab_len _ _,by simp;omega,fun j hj=> ?_,fun c hc=> ?_,fun j hj=> ?_⟩
   ·dsimp only;rw[hg j hj];simp only[List.length_append,List.length_cons,List.length_nil];split
    ·right;omega
    ·rcases ih.num j hj with q|q
     ·exact Or.inl q
     ·right;omega
   ·simp only[List.length_append,List.length_cons,List.length_nil]at hc
    by_cases hcl:c<s.2.length
    ·obtain⟨r,r1,r2,r3⟩:=ih.rep c hcl;refine⟨r,r1,fun j hj=> ?_,?_⟩
     ·dsimp only;rw[hg j hj]
      by_cases hm:(R k j&&R j k)=true
      ·rw[if_pos hm];rw[Bool.and_eq_true]at hm;constructor
       ·intro e;omega
       ·intro e;exact(hfree c hcl j hj hm.1 hm.2 ((r2 j hj).2 e)).elim
      ·rw[if_neg hm];exact r2 j hj
     ·have:(s.2++[(List.range n).all fun j=> !R k j||R j k]).getD c false=s.2.getD c false:=by
       rw[List.getD_eq_getElem?_getD,List.getD_eq_getElem?_getD,List.getElem?_append_left hcl]
      dsimp only;rw[this];exact r3
    ·have hce:c=s.2.length:=by omega
     subst hce;refine⟨k,hk',fun j hj=> ?_,?_⟩
     ·dsimp only;rw[hg j hj]
      by_cases hm:(R k j&&R j k)=true
      ·rw[if_pos hm];rw[Bool.and_eq_true]at hm;exact⟨fun _=>hm,fun _=>rfl⟩
      ·rw[if_neg hm];constructor
       ·intro e;rcases ih.num j hj with q|q<;>omega
       ·intro e;exact(hm (by rw[Bool.and_eq_true];exact e)).elim
     ·have:(s.2++[(List.range n).all fun j=> !R k j||R j k]).getD s.2.length false=(List.range n).all fun j=> !R k j||R j k:=by
       rw[List.getD_eq_getElem?_getD,List.getElem?_append_right (Nat.le_refl _)];simp
      dsimp only;rw[this,List.all_eq_true];constructor
      ·intro h j hj h1;have:=h j (List.mem_range.2 hj);rw[h1]at this;simpa using this
      ·intro h j hj;have:=h j (List.mem_range.1 hj);cases hv:R k j
       ·rfl
       ·rw[this hv];rfl
   ·dsimp only;rw[hg j (by omega)]
    by_cases e:j=k
    ·subst e;rw[hr j hk'];simp
    ·have:=ih.all j (by omega);split<;>omega
theorem closed_ex {R:Nat->Nat->Bool} {n:Nat} (hr:∀i,i<n->R i i=true) (ht:∀i j k,i<n->j<n->k<n->R i j=true->R j k=true->R i k=true) {i:Nat} (hi:i<n):∃s,s<n/\R i s=true/\∀j,j<n->R s j=true->R j s=true:=by
 have hnn:∀s v,(0:Rat)<=if R s v=true then 1 else 0:=fun s v=>by split<;>decide
 obtain⟨s,s1,s2,s3⟩:=ex_max (fun s=> -sm n fun v=>if R s v=true then 1 else 0) (fun s=>R i s=true) n ⟨i,hi,hr i hi⟩;refine⟨s,s1,s2,fun j hj hsj=> ?_⟩;have h1:=s3 j hj (ht i s j hi s1 hj s2 hsj);have hle:∀v,v<n->(0:Rat)<=(if R s v=true then 1 else 0) - (if R j v=true then 1 else 0):=fun v hv=>by
  by_cases a:R j v=true
  ·rw[if_pos a,if_pos (ht s j v s1 hj hv hsj a)];grind
  ·rw[if_neg a];have:=hnn s v;grind
 have hz:sm n (fun v=>(if R s v=true then 1 else 0) - (if R j v=true then(1:Rat)else 0))=0:=by
  have a:=sm_nonneg hle;rw[sm_sub]at a ⊢;grind
 have:=sm_eq_zero hle hz s s1;rw[if_pos (hr s s1)]at this;apply Classical.byContradiction;intro q;rw[if_neg q]at this;grind
def ab (q:Rat):Rat:=if 0<=q then q else -q
theorem ab_ge (q:Rat):q<=ab q/\ -q<=ab q/\0<=ab q:=by
 unfold ab;split<;>refine⟨?_,?_,?_⟩<;>grind
theorem ab_le {q b:Rat} (h1:q<=b) (h2: -q<=b):ab q<=b:=by
 unfold ab;split<;>assumption
theorem inv_zero {p:Nat->Nat->Rat} {A:Nat->Nat->Bool} {n c:Nat} (hp:Stoch p n) (hA:∀i,i<n->∀j,j<n->(A i j=true↔p i j≠0)) (hc:∀i,i<n->Rch A n i c) {x:Nat->Rat} (hx:∀j,j<n->x j=sm n fun i=>x i*p i j) (hs:sm n x=0):∀i,i<n->x i=0:=by
 have hu:∀j,j<n->ab (x j)<=sm n fun i=>ab (x i)*p i j:=fun j hj=>by
  apply ab_le
  ·rw[hx j hj];exact sm_le fun i hi=>Rat.mul_le_mul_of_nonneg_right (ab_ge _).1 (hp.nn i hi j hj)
  ·have: -x j=sm n fun i=> -x i*p i j:=by
    rw[hx j hj,<-sm_neg];apply sm_congr;intro i _;grind
   rw[this];exact sm_le fun i hi=>Rat.mul_le_mul_of_nonneg_right (ab_ge _).2.1 (hp.nn i hi j hj)
 have hsum:sm n (fun j=>(sm n fun i=>ab (x i)*p i j) - ab (x j))=0:=by
  rw[sm_sub,sm_swap (fun j i=>ab (x i)*p i j)];have:sm n (fun j=>sm n fun i=>ab (x j)*p j i)=sm n fun j=>ab (x j):=sm_congr fun j hj=>by
   rw[sm_mul];show ab (x j)*sm n (p j)=_;rw[hp.one j hj,Rat.mul_one]
  rw[this];grind
 have hue:∀j,j<n->ab (x j)=sm n fun i=>ab (x i)*p i j:=fun j hj=>by
  have:=sm_eq_zero (fun j hj=>by have:=hu j hj;grind) hsum j hj;grind
 have pos:∀v:Nat->Rat,(∀j,j<n->0<=v j)->(∀j,j<n->v j=sm n fun i=>v i*p i j)->∀i,i<n->0<v i->0<v c:=fun v hv he i hi h0=>by
  have key:∀k,Rch A n i k->0<v k:=fun k hk=>by
   induction hk with
   |refl=>exact h0
   | @step a b _ ha hb hab ih=>
    have t:=sm_term (f:=fun i=>v i*p i b) (n:=n) (fun i hi=>Rat.mul_nonneg (hv i hi) (hp.nn i hi b hb)) a ha;rw[<-he b hb]at t;have hpab:0<p a b:=by
     have h1:=hp.nn a ha b hb;have h2:=(hA a ha b hb).1 hab;grind
    have:=Rat.mul_pos ih hpab;grind
  exact key c (hc i hi)
 have p1:=pos (fun i=>ab (x i)+x i) (fun j hj=>by have:=ab_ge (x j);grind) (fun j hj=>by
  have:sm n (fun i=>(ab (x i)+x i)*p i j)=sm n (fun i=>ab (x i)*p i j+x i*p i j):=sm_congr fun i _=>by grind
  rw[this,sm_add,<-hue j hj,<-hx j hj])
 have p2:=pos (fun i=>ab (x i) - x i) (fun j hj=>by have:=ab_ge (x j);grind) (fun j hj=>by
  have:sm n (fun i=>(ab (x i) - x i)*p i j)=sm n (fun i=>ab (x i)*p i j - x i*p i j):=sm_congr fun i _=>by grind
  rw[this,sm_sub,<-hue j hj,<-hx j hj])
 intro i hi;have both:¬((∃i,i<n/\0<x i)/\∃i,i<n/\x i<0):=fun⟨⟨a,a1,a2⟩,b,b1,b2⟩=>by
  have c1:=p1 a a1 (by have:=ab_ge (x a);grind);have c2:=p2 b b1 (by have:=ab_ge (x b);grind);unfold ab at c1 c2;split at c1<;>grind
 by_cases h1:∃i,i<n/\x i<0
 ·have h2:∀i,i<n->0<= -x i:=fun i hi=>by
   apply Classical.byContradiction;intro q;exact both ⟨⟨i,hi,by grind⟩,h1⟩
  have:=sm_eq_zero h2 (by rw[sm_neg,hs];decide) i hi;grind
 ·have h2:∀i,i<n->0<=x i:=fun i hi=>by
   apply Classical.byContradiction;intro q;exact h1 ⟨i,hi,by grind⟩
  exact sm_eq_zero h2 hs i hi
def bal (m:Nat->Nat->Rat) (k:Nat) (w:Nat->Rat):Prop:=∀j,j<k->sm k (fun i=>w i*m i j)=w j*sm k (m j)
def cut (m:Nat->Nat->Rat) (k:Nat):Nat->Nat->Rat:=fun i j=>m i j+m i k/sm k (m k)*m k j
theorem bal_step {m:Nat->Nat->Rat} {k:Nat} {w:Nat->Rat} (ho:sm k (m k)≠0) (hb:bal (cut m k) k w) (hk:w k=sm k fun i=>w i*(m i k/sm k (m k))):bal m (k+1) w:=by
 have ek:w k*sm k (m k)=sm k fun i=>w i*m i k:=by
  have:sm k (fun i=>w i*m i k)=sm k (fun i=>sm k (m k)*(w i*(m i k/sm k (m k)))):=sm_congr fun i _=>by
   have:m i k/sm k (m k)*sm k (m k)=m i k:=Rat.div_mul_cancel ho;grind
  rw[this,sm_mul,<-hk];grind
 intro j hj;rw[sm,sm]
 by_cases e:j=k
 ·subst e;rw[<-ek];grind
 ·have h:=hb j (by omega);have e1:sm k (fun i=>w i*cut m k i j)=sm k (fun i=>w i*m i j)+w k*m k j:=by
   have:sm k (fun i=>w i*cut m k i j)=sm k (fun i=>w i*m i j+m k j*(w i*(m i k/sm k (m k)))):=sm_congr fun i _=>by
    unfold cut;grind
   rw[this,sm_add,sm_mul,<-hk];grind
  have e2:sm k (cut m k j)=sm k (m j)+m j k:=by
   have:sm k (cut m k j)=sm k (fun i=>m j i+m j k/sm k (m k)*m k i):=rfl;rw[this,sm_add,sm_mul];show _+m j k/sm k (m k)*sm k (m k)=_;rw[Rat.div_mul_cancel ho]
  rw[e1,e2]at h;exact h
def nzA (m:Nat->Nat->Rat) (i j:Nat):Bool:=decide (m i j≠0)
def irr (m:Nat->Nat->Rat) (k:Nat):Prop:=(∀i,i<k->∀j,j<k->0<=m i j)/\∀i,i<k->∀j,j<k->Rch (nzA m) k i j
theorem irr_out {m:Nat->Nat->Rat} {k:Nat} (h:irr m (k+1)) (hk:0<k):0<sm k (m k):=by
 have hw:=h.2 k (by omega) 0 (by omega);have key:∀v,Rch (nzA m) (k+1) k v->v=k\/∃j,j<k/\m k j≠0:=fun v hv=>by
  induction hv with
  |refl=>exact Or.inl rfl
  | @step i j _ hi hj ha ih=>
   rcases ih with rfl|q
   ·by_cases e:j=i
    ·exact Or.inl e
    ·exact Or.inr ⟨j,by omega,of_decide_eq_true ha⟩
   ·exact Or.inr q
 obtain⟨j,j1,j2⟩:=(key 0 hw).resolve_left (by omega);have t:=sm_term (f:=m k) (n:=k) (fun i hi=>h.1 k (by omega) i (by omega)) j j1;have:=h.1 k (by omega) j (by omega);grind
theorem irr_cut {m:Nat->Nat->Rat} {k:Nat} (h:irr m (k+1)) (hk:0<k):irr (cut m k) k:=by
 have ho:=irr_out h hk;have hd:∀x:Rat,0<=x->0<=x/sm k (m k):=fun x hx=>by
  rw[Rat.div_def];exact Rat.mul_nonneg hx (Rat.le_of_lt (Rat.inv_pos.2 ho))
 have nn:∀i,i<k->∀j,j<k->0<=m i k/sm k (m k)*m k j:=fun i hi j hj=>Rat.mul_nonneg (hd _ (h.1 i (by omega) k (by omega))) (h.1 k (by omega) j (by omega))
 refine⟨fun i hi j hj=> ?_,fun i hi j hj=> ?_⟩
 ·have a:=h.1 i (by omega) j (by omega);have b:=nn i hi j hj;unfold cut;grind
 ·have key:∀v,Rch (nzA m) (k+1) i v->(v<k->Rch (nzA (cut m k)) k i v)/\(v=k->∃u,u<k/\Rch (nzA (cut m k)) k i u/\m u k≠0):=fun v hv=>by
   induction hv with
   |refl=>exact⟨fun _=> .refl,fun e=>by omega⟩
   | @step a b _ ha hb hab ih=>
    have hab':m a b≠0:=of_decide_eq_true hab;constructor
    ·intro hbk
     by_cases e:a=k
     ·subst e;obtain⟨u,u1,u2,u3⟩:=ih.2 rfl;refine .step u2 u1 hbk (decide_eq_true ?_);have q1:=h.1 u (by omega) b (by omega);have q2:=h.1 u (by omega) a (by omega);have q3:=h.1 a (by omega) b (by omega);have q4:0<m u a/sm a (m a):=by
       rw[Rat.div_def];exact Rat.mul_pos (by grind) (Rat.inv_pos.2 ho)
      have q5:=Rat.mul_pos q4 (show 0<m a b by grind);show cut m a u b≠0;unfold cut;grind
     ·refine .step (ih.1 (by omega)) (by omega) hbk (decide_eq_true ?_);have q1:=h.1 a (by omega) b (by omega);have q2:=nn a (by omega) b hbk;show cut m k a b≠0;unfold cut;grind
    ·intro hbk;subst hbk
     by_cases e:a=b
     ·subst e;exact ih.2 rfl
     ·exact⟨a,by omega,ih.1 (by omega),hab'⟩
  exact(key j (h.2 i (by omega) j (by omega))).1 hj
end Go.Cm
end
section
set_option linter.unusedVariables false
namespace Go.Cm
theorem sumT {D H:Nat} (hD:0<D) {f:Nat->Q3} :∀ {k:Nat},(∀i,i<k->hd D H (f i))->hd D (k*H) (sumQ (tab k f))/\qv (sumQ (tab k f))=sm k fun i=>qv (f i)
 |0,_=>⟨hd_zero hD _,qv_zeroQ⟩
 |k+1,h=>by
  obtain⟨a,b⟩:=sumT hD (k:=k) fun i hi=>h i (by omega)
  have c:=h k (by omega);rw[tab_succ,sumQ_snoc,Nat.succ_mul];exact⟨hd_add a c,by rw[qv_add a.1 c.1,b];rfl⟩
def outQ (a:Nat->Nat->Q3) (k:Nat):Q3:=sumQ (tab k (a k))
def gS (a:Nat->Nat->Q3) (k:Nat):Nat->Nat->Q3:=fun i j=>
 if i<k then(if j=k then overQ (a i k) (outQ a k)else if j<k/\(overQ (a i k) (outQ a k)).2.1≠0 then addQ (a i j) (mulQ (overQ (a i k) (outQ a k)) (a k j))else a i j)else a i j
def gM (n:Nat) (a:Nat->Nat->Q3):Nat->Nat->Nat->Q3
 |0=>a
 |t+1=>gS (gM n a t) (n - 1 - t)
def wF (F:Nat->Nat->Q3):Nat->Nat->Q3
 |0=>fun _=>oneQ
 |k+1=>fun i=>if i=k+1 then dotQ (wF F k) (fun i=>F i (k+1)) (k+1)else wF F k i
theorem wF_keep (F:Nat->Nat->Q3) (i:Nat):∀(k l:Nat),i<=k->k<=l->wF F l i=wF F k i:=by
 intro k l h1 h2
 induction l with
 |zero=>rw[show k=0 by omega]
 |succ l ih=>
  by_cases e:k=l+1
  ·rw[e]
  ·rw[wF];dsimp only;rw[if_neg (by omega),ih (by omega)]
def allB (a:Nat->Nat->Q3) (k D H:Nat):Prop:=D<=H/\∀i,i<k->∀j,j<k->hd D H (a i j)
theorem gS_step {a:Nat->Nat->Q3} {k D H:Nat} (hk:0<k) (hk12:k<12) (h:allB a (k+1) D H) (hi:irr (vals a) (k+1)):
  hd D (12*H) (outQ a k)/\(outQ a k).2.1≠0/\∃O,O<=12*H/\(∀i,i<k->hd O H (gS a k i k))/\allB (gS a k) k (D*O) (13*(H*H))/\(∀i,i<k->∀j,j<k->vals (gS a k) i j=cut (vals a) k i j)/\(∀i,i<k->vals (gS a k) i k=vals a i k/sm k (vals a k))/\
  (∀i,i<k->∀j,j<k->hd (O*D) (H*H) (mulQ (overQ (a i k) (outQ a k)) (a k j))):=by
 obtain⟨h1,h2⟩:=h;have hD:0<D:=(h2 0 (by omega) 0 (by omega)).2.1;obtain⟨o1,o2⟩:=sumT hD (k:=k) (f:=a k) fun i hi=>h2 k (by omega) i (by omega)
 change hd D (k*H) (outQ a k)at o1
 have ov:qv (outQ a k)=sm k (vals a k):=o2;have op:=irr_out hi hk;have oz:(outQ a k).2.1≠0:=(ne_qv o1.1).2 (by
  show qv (outQ a k)≠0;rw[ov];grind)
 have o3:hd D (12*H) (outQ a k):=hd_mono o1 (Nat.mul_le_mul_right _ (by omega));obtain⟨_,_,O,O1,O2⟩:=o3;have hDr:(0:Rat)<((D:Nat):Rat):=Rat.natCast_pos.2 hD;have hOp:0<O:=by
  have:(0:Rat)<((O:Int):Rat):=by
   rw[<-O1,ov];exact Rat.mul_pos op hDr
  exact Rat.intCast_pos.1 this
 obtain⟨O,rfl⟩:=Int.eq_ofNat_of_zero_le (Int.le_of_lt hOp);have hO:0<O:=by omega
 have hOH:O<=12*H:=by simpa using O2
 have hoq:qv (outQ a k)≠0:=by rw[ov];grind
 have hOr:((O:Nat):Rat)=qv (outQ a k)*(D:Rat):=by
  rw[O1];exact(Rat.intCast_natCast _).symm
 have fq:∀i,i<k->hd O H (overQ (a i k) (outQ a k))/\qv (overQ (a i k) (outQ a k))=vals a i k/sm k (vals a k):=fun i hik=>by
  have l1:=h2 i (by omega) k (by omega);obtain⟨a1,a2,z,z1,z2⟩:=l1;refine⟨⟨overQ_low _ _ a1 o1.1 oz,hO,z,?_,z2⟩,?_⟩
  ·rw[qv_over a1 o1.1 oz,hOr,<-z1];have:qv (a i k)/qv (outQ a k)*qv (outQ a k)=qv (a i k):=Rat.div_mul_cancel hoq;grind
  ·rw[qv_over a1 o1.1 oz,ov];rfl
 have pq:∀i,i<k->∀j,j<k->hd (O*D) (H*H) (mulQ (overQ (a i k) (outQ a k)) (a k j)):=fun i hik j hjk=>hd_mul (fq i hik).1 (h2 k (by omega) j (by omega))
 have eik:∀i,i<k->gS a k i k=overQ (a i k) (outQ a k):=fun i hik=>by
  unfold gS;rw[if_pos hik,if_pos rfl]
 have eij:∀i,i<k->∀j,j<k->hd (D*O) (13*(H*H)) (gS a k i j)/\qv (gS a k i j)=cut (vals a) k i j:=fun i hik j hjk=>by
  have l1:=h2 i (by omega) j (by omega);have l2:=hd_scale l1 hO;have l3:=pq i hik j hjk;rw[Nat.mul_comm O D]at l3;have e2:cut (vals a) k i j=qv (a i j)+qv (overQ (a i k) (outQ a k))*qv (a k j):=by
   rw[(fq i hik).2];rfl
  have hb:H*O<=12*(H*H):=by
   have:=Nat.mul_le_mul_left H hOH;have e:H*(12*H)=12*(H*H):=by ac_rfl
   omega
  unfold gS;rw[if_pos hik,if_neg (show ¬j=k by omega)]
  by_cases hz:(overQ (a i k) (outQ a k)).2.1≠0
  ·rw[if_pos ⟨hjk,hz⟩];refine⟨hd_mono (hd_add l2 l3) (by omega),?_⟩;rw[e2,qv_add l1.1 l3.1,qv_mul (fq i hik).1.1 (h2 k (by omega) j (by omega)).1]
  ·rw[if_neg (fun q=>hz q.2)];refine⟨hd_mono l2 (by omega),?_⟩;have:qv (overQ (a i k) (outQ a k))=0:=Classical.byContradiction fun q=>hz ((ne_qv (fq i hik).1.1).2 q)
   rw[e2,this];grind
 refine⟨hd_mono o1 (Nat.mul_le_mul_right _ (by omega)),oz,O,hOH,fun i hik=>by rw[eik i hik];exact(fq i hik).1,⟨?_,fun i hik j hjk=>(eij i hik j hjk).1⟩,fun i hik j hjk=>(eij i hik j hjk).2,fun i hik=> ?_,pq⟩
 ·have t:=Nat.mul_le_mul h1 hOH;have e:H*(12*H)=12*(H*H):=by ac_rfl
  omega
 ·show qv (gS a k i k)=_;rw[eik i hik];exact(fq i hik).2
def hB (c t:Nat):Nat:=10^(2^t*c - 2)
theorem hB_step {c t:Nat} (hc:2<=c):13*(hB c t*hB c t)<=hB c (t+1):=by
 unfold hB;have h1:2<=2^t*c:=Nat.le_trans hc (Nat.le_mul_of_pos_left _ (Nat.pow_pos (by decide)));have e:2^(t+1)*c - 2=(2^t*c - 2)+(2^t*c - 2)+2:=by
  rw[Nat.pow_succ];have:2^t*2*c=2*(2^t*c):=by rw[Nat.mul_comm (2^t) 2,Nat.mul_assoc]
  omega
 rw[e,Nat.pow_add,Nat.pow_add];omega
theorem irr_congr {m m':Nat->Nat->Rat} {k:Nat} (h:∀i,i<k->∀j,j<k->m i j=m' i j) (hi:irr m k):irr m' k:=by
 refine⟨fun i hi' j hj=>by rw[<-h i hi' j hj];exact hi.1 i hi' j hj,fun i hi' j hj=> ?_⟩;have key:∀v,Rch (nzA m) k i v->Rch (nzA m') k i v:=fun v hv=>by
  induction hv with
  |refl=>exact .refl
  |step _ a b c ih=>
   refine .step ih a b ?_;unfold nzA at c ⊢;rw[<-h _ a _ b];exact c
 exact key j (hi.2 i hi' j hj)
theorem gM_ok {a:Nat->Nat->Q3} {n c:Nat} (hn:n<=12) (hc:2<=c) {D:Nat} (h:allB a n D (hB c 0)) (hi:irr (vals a) n):∀t,t<n->(∃D,allB (gM n a t) (n - t) D (hB c t))/\irr (vals (gM n a t)) (n - t)
 |0,_=>⟨⟨D,h⟩,hi⟩
 |t+1,ht=>by
  obtain⟨⟨E,i1⟩,i2⟩:=gM_ok hn hc h hi t (by omega);have e:n - t=(n - 1 - t)+1:=by omega
  rw[e]at i1 i2;obtain⟨_,_,O,q1,q2,q3,q4,q5,_⟩:=gS_step (by omega) (by omega) i1 i2;have e2:n - (t+1)=n - 1 - t:=by omega
  rw[e2,gM];have hs:=hB_step (t:=t) hc;refine⟨⟨E*O,by have:=q3.1;omega,fun i hi j hj=>hd_mono (q3.2 i hi j hj) hs⟩,irr_congr (fun i hi j hj=>(q4 i hi j hj).symm) (irr_cut i2 (by omega))⟩
theorem gM_keep {a:Nat->Nat->Q3} {n i k t:Nat} (hik:i<k) (hk:n - 1 - t=k):∀l,t+1<=l->l<n->gM n a l i k=gM n a (t+1) i k:=by
 intro l h1 h2
 induction l with
 |zero=>omega
 |succ l ih=>
  by_cases e:t=l
  ·rw[e]
  ·rw[<-ih (by omega) (by omega),gM];unfold gS
   by_cases hi:i<n - 1 - l
   ·rw[if_pos hi,if_neg (by omega),if_neg (fun q=>by omega)]
   ·rw[if_neg hi]
def wB (n c k:Nat):Nat:=10^((2^(n - 1) - 2^(n - 1 - k))*c)
theorem wB_step {n c k:Nat} (hc:2<=c) (hk:k+1<n):12*(hB c (n - 1 - (k+1))*wB n c k)<=wB n c (k+1):=by
 unfold wB hB;have h0:2^(n - 1 - k)=2^(n - 1 - (k+1))*2:=by
  rw[<-Nat.pow_succ,show(n - 1 - (k+1)).succ=n - 1 - k by omega]
 have h1:2^(n - 1 - k)<=2^(n - 1):=Nat.pow_le_pow_right (by decide) (by omega);have h2:2<=2^(n - 1 - (k+1))*c:=Nat.le_trans hc (Nat.le_mul_of_pos_left _ (Nat.pow_pos (by decide)));generalize 2^(n - 1 - (k+1))=u at*;rw[h0]at h1 ⊢;generalize 2^(n - 1)=v at*;have e:(v - u)*c=(u*c - 2)+(v - u*2)*c+2:=by
  have:(v - u)*c=(v - u*2)*c+u*c:=by
   rw[<-Nat.add_mul,show v - u*2+u=v - u by omega]
  omega
 rw[e,Nat.pow_add,Nat.pow_add];have:12<=10^2:=by decide
 generalize 10^(u*c - 2)*10^((v - u*2)*c)=X;omega
theorem wF_ok {a:Nat->Nat->Q3} {n c:Nat} (hn:n<=12) (hc:2<=c) {D:Nat} (h:allB a n D (hB c 0)) (hi:irr (vals a) n):∀k,k<n->∃e,e<=wB n c k/\∀i,i<=k->hd e (wB n c k) (wF (gM n a (n - 1)) k i)/\0<=qv (wF (gM n a (n - 1)) k i)
 |0,hk=>⟨1,by unfold wB;simp,fun i hi=>⟨hd_mono (hd_one (D:=1) Nat.one_pos) (by unfold wB;simp),by
   show 0<=qv oneQ;rw[qv_oneQ];decide⟩⟩
 |k+1,hk=>by
  obtain⟨e,e1,e2⟩:=wF_ok hn hc h hi k (by omega);have he:0<e:=(e2 0 (by omega)).1.2.1;obtain⟨⟨E,i1⟩,i2⟩:=gM_ok hn hc h hi (n - 1 - (k+1)) (by omega);have et:n - (n - 1 - (k+1))=(k+1)+1:=by omega
  rw[et]at i1 i2;obtain⟨_,_,O,q1,q2,q3,q4,q5,_⟩:=gS_step (by omega) (by omega) i1 i2;have hF:∀i,i<k+1->gM n a (n - 1) i (k+1)=gS (gM n a (n - 1 - (k+1))) (k+1) i (k+1):=fun i hi=>by
   rw[gM_keep (t:=n - 1 - (k+1)) hi (by omega) (n - 1) (by omega) (by omega),gM,show n - 1 - (n - 1 - (k+1))=k+1 by omega]
  have hO:0<O:=(q2 0 (by omega)).2.1;have hs:=wB_step (n:=n) (k:=k) hc hk;generalize hB c (n - 1 - (k+1))=H at*;generalize wB n c k=W at*;have dq:=dotQ_hd (w:=wF (gM n a (n - 1)) k) (m:=fun i=>gM n a (n - 1) i (k+1)) he hO (n:=k+1) (H:=W) (G:=H) fun i hi=>⟨(e2 i (by omega)).1,by rw[hF i hi];exact q2 i hi⟩
  have dv:=dotQ_qv (w:=wF (gM n a (n - 1)) k) (m:=fun i=>gM n a (n - 1) i (k+1)) (n:=k+1) fun i hi=>⟨(e2 i (by omega)).1.1,by rw[hF i hi];exact(q2 i hi).1⟩
  have hbd:(k+1)*(W*H)<=wB n c (k+1):=by
   have:(k+1)*(W*H)<=12*(H*W):=by
    rw[Nat.mul_comm W H];exact Nat.mul_le_mul_right _ (by omega)
   omega
  have hbe:e*O<=wB n c (k+1):=by
   have:=Nat.mul_le_mul e1 q1;have e:W*(12*H)=12*(H*W):=by ac_rfl
   omega
  refine⟨e*O,hbe,fun i hik=> ?_⟩;rw[wF];dsimp only
  by_cases hie:i=k+1
  ·rw[if_pos hie];refine⟨hd_mono dq hbd,?_⟩;rw[dv.2];apply sm_nonneg;intro j hj;apply Rat.mul_nonneg (e2 j (by omega)).2;rw[hF j hj];show 0<=vals (gS (gM n a (n - 1 - (k+1))) (k+1)) j (k+1);rw[q5 j hj,Rat.div_def];exact Rat.mul_nonneg (i2.1 j (by omega) (k+1) (by omega)) (Rat.le_of_lt (Rat.inv_pos.2 (irr_out i2 (by omega))))
  ·rw[if_neg hie];obtain⟨g1,g2⟩:=e2 i (by omega);refine⟨hd_mono (hd_scale g1 hO) ?_,g2⟩;have:=Nat.mul_le_mul_left W q1;have e:W*(12*H)=12*(H*W):=by ac_rfl
   omega
theorem wF_bal {a:Nat->Nat->Q3} {n c:Nat} (hn:n<=12) (h0:0<n) (hc:2<=c) {D:Nat} (h:allB a n D (hB c 0)) (hirr:irr (vals a) n):∀m t,t+m+1=n->bal (vals (gM n a t)) (n - t) fun i=>qv (wF (gM n a (n - 1)) (n - 1) i)
 |0,t,ht=>by
  rw[show n - t=1 by omega];intro j hj;have:j=0:=by omega
  subst this;simp only[sm];grind
 |m+1,t,ht=>by
  have ih:=wF_bal hn h0 hc h hirr m (t+1) (by omega);obtain⟨⟨E,i1⟩,i2⟩:=gM_ok hn hc h hirr t (by omega);have et:n - t=(n - 1 - t)+1:=by omega
  rw[et]at i1 i2;obtain⟨_,_,O,q1,q2,q3,q4,q5,_⟩:=gS_step (by omega) (by omega) i1 i2;have ho:=irr_out i2 (by omega);rw[show n - (t+1)=n - 1 - t by omega,gM]at ih;rw[et];refine bal_step (by grind) (fun j hj=> ?_) ?_
  ·have:=ih j hj;have e1:sm (n - 1 - t) (fun i=>qv (wF (gM n a (n - 1)) (n - 1) i)*vals (gS (gM n a t) (n - 1 - t)) i j)=sm (n - 1 - t) (fun i=>qv (wF (gM n a (n - 1)) (n - 1) i)*cut (vals (gM n a t)) (n - 1 - t) i j):=sm_congr fun i hi=>by rw[q4 i hi j hj]
   have e2:sm (n - 1 - t) (vals (gS (gM n a t) (n - 1 - t)) j)=sm (n - 1 - t) (cut (vals (gM n a t)) (n - 1 - t) j):=sm_congr fun i hi=>q4 j hj i hi
   rw[e1,e2]at this;exact this
  ·
   have hk:n - 1 - t<n:=by omega
   obtain⟨k,ek⟩:∃k,n - 1 - t=k+1:=⟨n - 1 - t - 1,by omega⟩
   have dl:∀i,i<k+1->low (wF (gM n a (n - 1)) k i)/\low (gM n a (n - 1) i (k+1)):=fun i hi=>by
    obtain⟨e,_,e2⟩:=wF_ok hn hc h hirr k (by omega);refine⟨(e2 i (by omega)).1.1,?_⟩;rw[gM_keep (t:=t) hi ek (n - 1) (by omega) (by omega),gM,ek];rw[ek]at q2;exact(q2 i hi).1
   rw[ek]at q5 ⊢;rw[wF_keep _ (k+1) (k+1) (n - 1) (Nat.le_refl _) (by omega),wF];dsimp only;rw[if_pos rfl,(dotQ_qv dl).2];apply sm_congr;intro i hi;rw[wF_keep _ i k (n - 1) (by omega) (by omega)];congr 1;rw[gM_keep (t:=t) hi ek (n - 1) (by omega) (by omega),gM,ek];exact q5 i hi
end Go.Cm
end
section
set_option linter.unusedVariables false
namespace Go.Cm
theorem qv_nonneg {r:Q3} (h:low r) (hn:r.1=false):0<=qv r:=by
 apply Classical.byContradiction;intro q;have:qv r<0:=by grind
 rw[<-qv_neg_iff h,hn]at this;cases this
theorem isOneQ_iff {r:Q3} (h:low r):isOneQ r=true↔qv r=1:=by
 rw[<-qv_oneQ,qv_iff h oneQ_low];unfold isOneQ;rw[decide_eq_true_iff];constructor
 ·rintro ⟨a,b⟩
  have g:=h.2.2;rw[b,Nat.gcd_self]at g;obtain⟨n,p,q⟩:=r;dsimp only at a b g;subst a b g;rfl
 ·intro e;subst e;exact⟨rfl,rfl⟩
theorem ch_row {M:List (List Q3)} (h:isCh M) {i:Nat} (hi:i<M.length):M.getD i []=tab M.length (mq M i):=by
 have e:M.getD i []=M[i]:=by simp [List.getD_eq_getElem?_getD,hi]
 have:=(h.2.1.2 _ (List.getElem_mem hi)).1;unfold mq;rw[e]
 conv=>lhs;rw[tab_of M[i] zeroQ]
 rw[this]
theorem ch_stoch {M:List (List Q3)} (h:isCh M):Stoch (vals (mq M)) M.length:=by
 refine⟨fun i hi j hj=> ?_,fun i hi=> ?_⟩
 ·obtain⟨a,_,b⟩:=ch_at h hi hj;exact qv_nonneg a b
 ·have e:M.getD i []=M[i]:=by simp [List.getD_eq_getElem?_getD,hi]
  have hw:=(h.2.2 _ (List.getElem_mem hi)).2;rw[<-e,ch_row h hi]at hw;unfold isW at hw;rw[Bool.and_eq_true]at hw;obtain⟨s1,s2⟩:=sumT (D:=dens (tab M.length (mq M i))) (H:=10^200*dens (tab M.length (mq M i))) (k:=M.length) (f:=mq M i) (dens_pos fun r hr=>by
   obtain⟨j,hj,rfl⟩:=tab_mem.1 hr;exact(ch_at h hi hj).1) fun j hj=>by
    refine hd_mono (dens_hd (fun r hr=> ?_) _ (tab_mem.2 ⟨j,hj,rfl⟩)) (Nat.mul_le_mul_right _ (Nat.le_of_lt (ch_at h hi hj).2.1.1));obtain⟨j,hj,rfl⟩:=tab_mem.1 hr;exact(ch_at h hi hj).1
  have:=(isOneQ_iff s1.1).1 hw.2;rw[s2]at this;exact this
theorem ch_adj {M:List (List Q3)} (h:isCh M):∀i,i<M.length->∀j,j<M.length->(adj M i j=true↔vals (mq M) i j≠0):=fun i hi j hj=>by
 unfold adj;rw[decide_eq_true_iff];exact ne_qv (ch_at h hi hj).1
theorem RB_iff {M:List (List Q3)} {i:Nat} (hi:i<M.length) (j:Nat):rcB M i j=true↔Rch (adj M) M.length i j:=reachB_iff hi j
theorem RB_refl (M:List (List Q3)):∀i,i<M.length->rcB M i i=true:=fun i hi=>(RB_iff hi i).2 .refl
theorem RB_trans (M:List (List Q3)):∀i j k,i<M.length->j<M.length->k<M.length->rcB M i j=true->rcB M j k=true->rcB M i k=true:=fun i j k hi hj _ h1 h2=>(RB_iff hi k).2 (((RB_iff hi j).1 h1).trans ((RB_iff hj k).1 h2))
theorem posF_single {cl:List Bool} {k:Int} (h:posF 0 cl=[k]):∃c:Nat,k=(c:Int)/\c<cl.length/\∀d,cl.getD d false=true↔d=c:=by
 have h0:0<=k:=posF_ge (sn:=cl) (by rw[h];exact List.mem_cons_self ..);obtain⟨c,rfl⟩:=Int.eq_ofNat_of_zero_le h0;have key:∀d:Nat,cl.getD d false=true↔d=c:=fun d=>by
  rw[<-posF_mem 0 cl d,h,decide_eq_true_iff,List.mem_singleton];omega
 refine⟨c,rfl,?_,key⟩;apply Classical.byContradiction;intro q;have:=(key c).2 rfl;rw[List.getD_eq_getElem?_getD,List.getElem?_eq_none (by omega)]at this;cases this
theorem cls_ok (M:List (List Q3)):Cin (rcB M) M.length M.length (clsM M):=cls_in (RB_refl M) (RB_trans M) M.length (Nat.le_refl _)
theorem one_closed {M:List (List Q3)} {k:Int} (h:posF 0 (clsM M).2=[k]):∃r,r<M.length/\(∀j,j<M.length->((clsM M).1.getD j (-1)=k↔Rch (adj M) M.length r j/\Rch (adj M) M.length j r))/\(∀j,j<M.length->Rch (adj M) M.length r j->Rch (adj M) M.length j r)/\∀i,i<M.length->Rch (adj M) M.length i r:=by
 obtain⟨c,rfl,hc,hk⟩:=posF_single h;have ok:=cls_ok M;obtain⟨r,r1,r2,r3⟩:=ok.rep c hc;have hcl:=r3.1 ((hk c).2 rfl);refine⟨r,r1,fun j hj=> ?_,fun j hj hr=>(RB_iff hj r).1 (hcl j hj ((RB_iff r1 j).2 hr)),fun i hi=> ?_⟩
 ·rw[r2 j hj,RB_iff r1,RB_iff hj]
 ·obtain⟨s,s1,s2,s3⟩:=closed_ex (RB_refl M) (RB_trans M) hi;have hs0:=ok.all s s1;obtain⟨d,hd⟩:=Int.eq_ofNat_of_zero_le hs0;have hdl:d<(clsM M).2.length:=by
   rcases ok.num s s1 with q|q<;>omega
  obtain⟨t,t1,t2,t3⟩:=ok.rep d hdl;obtain⟨a,b⟩:=(t2 s s1).1 hd;have:(clsM M).2.getD d false=true:=t3.2 fun j hj hj1=>by
   have h1:=RB_trans M s t j s1 t1 hj b hj1;exact RB_trans M j s t hj s1 t1 (s3 j hj h1) b
  have hdc:=(hk d).1 this;subst hdc;obtain⟨a',b'⟩:=(r2 s s1).1 hd;exact((RB_iff hi s).1 s2).trans ((RB_iff s1 r).1 b')
def restA (M:List (List Q3)):Nat->Nat->Q3:=fun j i=>
 if i=M.length then(if j+1=M.length then oneQ else zeroQ)else if j+1=M.length then oneQ else if i=j then addQ (mq M i j) (oppQ oneQ)else mq M i j
theorem restA_low {M:List (List Q3)} (h:isCh M):lowM (restA M) M.length:=fun j hj i hi=>by
 unfold restA;split
 ·split
  ·exact oneQ_low
  ·exact zeroQ_low
 ·split
  ·exact oneQ_low
  ·have:=(ch_at h (i:=i) (j:=j) (by omega) hj).1;split
   ·exact addQ_low _ _ this (oppQ_low _ oneQ_low)
   ·exact this
theorem qv_sub_one {r:Q3} (h:low r):qv (addQ r (oppQ oneQ))=qv r - 1:=by
 rw[qv_add h (oppQ_low _ oneQ_low),qv_opp oneQ_low,qv_oneQ];grind
theorem restA_ker {M:List (List Q3)} (h:isCh M) (x:Nat->Rat) (b:Rat) (hb:x M.length= -b):ker (vals (restA M)) M.length x↔(∀j,j<M.length->x j=sm M.length fun i=>x i*vals (mq M) i j)/\sm M.length x=b:=by
 have hs:=ch_stoch h;have h1:1<=M.length:=h.1;generalize hn:M.length=n at*;have e1:∀j,j<n->j+1≠n->sm (n+1) (fun i=>vals (restA M) j i*x i)=(sm n fun i=>x i*vals (mq M) i j) - x j:=fun j hj hne=>by
  have t:sm n (fun i=>vals (restA M) j i*x i)=sm n (fun i=>x i*vals (mq M) i j - if i=j then x i else 0):=sm_congr fun i hi=>by
   unfold vals restA;rw[hn,if_neg (by omega),if_neg hne]
   by_cases e:i=j
   ·rw[if_pos e,if_pos e,qv_sub_one (ch_at h (by omega) (by omega)).1];grind
   ·rw[if_neg e,if_neg e];grind
  have o:=sm_one x j n;rw[if_pos hj]at o;rw[sm,t,sm_sub,o];have:vals (restA M) j n=0:=by
   unfold vals restA;rw[hn,if_pos rfl,if_neg hne,qv_zeroQ]
  rw[this];grind
 have e2:∀j,j+1=n->sm (n+1) (fun i=>vals (restA M) j i*x i)=sm n x - b:=fun j hj=>by
  have t:sm n (fun i=>vals (restA M) j i*x i)=sm n x:=sm_congr fun i hi=>by
   unfold vals restA;rw[hn,if_neg (by omega),if_pos hj,qv_oneQ];grind
  have:vals (restA M) j n=1:=by
   unfold vals restA;rw[hn,if_pos rfl,if_pos hj,qv_oneQ]
  rw[sm,t,this,hb];grind
 have tot:sm n (fun j=>sm n fun i=>x i*vals (mq M) i j)=sm n x:=by
  rw[sm_swap (fun j i=>x i*vals (mq M) i j)];apply sm_congr;intro i hi;rw[sm_mul];show x i*sm n (vals (mq M) i)=_;rw[hs.one i hi,Rat.mul_one]
 constructor
 ·intro hk;have a:∀j,j<n->j+1≠n->x j=sm n fun i=>x i*vals (mq M) i j:=fun j hj hne=>by
   have:=hk j hj;rw[e1 j hj hne]at this;grind
  have c:sm n x=b:=by
   have:=hk (n - 1) (by omega);rw[e2 (n - 1) (by omega)]at this;grind
  refine⟨fun j hj=> ?_,c⟩
  by_cases hne:j+1=n
  ·
   obtain⟨m,rfl⟩:∃m,n=m+1:=⟨n - 1,by omega⟩
   have:j=m:=by omega
   subst this;have q:sm j (fun j'=>sm (j+1) fun i=>x i*vals (mq M) i j')=sm j x:=sm_congr fun i hi=>(a i (by omega) (by omega)).symm
   have t:=tot;rw[sm,q]at t
   conv at t=>rhs;rw[sm]
   grind
  ·exact a j hj hne
 ·rintro ⟨a,c⟩ j hj
  by_cases hne:j+1=n
  ·rw[e2 j hne,c];grind
  ·rw[e1 j hj hne,<-a j hj];grind
theorem restA_nons {M:List (List Q3)} (h:isCh M) {k:Int} (hk:posF 0 (clsM M).2=[k]):nons (vals (restA M)) M.length:=fun x hx h0=>by
 obtain⟨r,r1,_,_,r4⟩:=one_closed hk;obtain⟨a,b⟩:=(restA_ker h x 0 (by rw[h0];grind)).1 hx;exact inv_zero (ch_stoch h) (ch_adj h) r4 a b
end Go.Cm
end
section
set_option linter.unusedVariables false
namespace Go.Cm
theorem sm_fl (c:Nat->Bool) (f:Nat->Rat):∀n,sm (fl c n).length (fun a=>f ((fl c n).getD a 0))=sm n fun i=>if c i=true then f i else 0
 |0=>rfl
 |n+1=>by
  have ih:=sm_fl c f n;rw[sm,<-ih,fl_succ]
  by_cases hc:c n=true
  ·rw[if_pos hc,if_pos hc,List.length_append,List.length_cons,List.length_nil,sm];congr 1
   ·apply sm_congr;intro a ha;rw[List.getD_eq_getElem?_getD,List.getD_eq_getElem?_getD,List.getElem?_append_left ha]
   ·rw[List.getD_eq_getElem?_getD,List.getElem?_append_right (by omega)];simp
  ·rw[if_neg hc,if_neg hc,List.append_nil,Rat.add_zero]
def clC (M:List (List Q3)) (k:Int) (i:Nat):Bool:=decide ((clsM M).1.getD i (-1)=k)
def subQ (M:List (List Q3)) (c:Nat->Bool):Nat->Nat->Q3:=fun a b=>mq M ((fl c M.length).getD a 0) ((fl c M.length).getD b 0)
def wC (M:List (List Q3)) (c:Nat->Bool):Nat->Q3:=wF (gM (fl c M.length).length (subQ M c) ((fl c M.length).length - 1)) ((fl c M.length).length - 1)
def restI (M:List (List Q3)) (c:Nat->Bool):Nat->Q3:=fun j=>if c j=true then overQ (wC M c (ix c j)) (sumQ (tab (fl c M.length).length (wC M c)))else zeroQ
theorem sub_ok {M:List (List Q3)} (h:isCh M) {k:Int} (hk:posF 0 (clsM M).2=[k]):0<(fl (clC M k) M.length).length/\(fl (clC M k) M.length).length<=12/\irr (vals (subQ M (clC M k))) (fl (clC M k) M.length).length/\
  (∀i,i<M.length->clC M k i=true->∀j,j<M.length->clC M k j=false->vals (mq M) i j=0):=by
 obtain⟨r,r1,r2,r3,r4⟩:=one_closed hk;have hc:∀j,j<M.length->(clC M k j=true↔Rch (adj M) M.length r j):=fun j hj=>by
  unfold clC;rw[decide_eq_true_iff,r2 j hj];exact⟨fun q=>q.1,fun q=>⟨q,r3 j hj q⟩⟩
 have hcl:∀i,i<M.length->clC M k i=true->∀j,j<M.length->clC M k j=false->vals (mq M) i j=0:=fun i hi h1 j hj h2=>by
  apply Classical.byContradiction;intro q;have:=(hc j hj).2 (.step ((hc i hi).1 h1) hi hj ((ch_adj h i hi j hj).2 q));rw[h2]at this;cases this
 have hs:=ch_stoch h;refine⟨?_,?_,⟨fun a ha b hb=> ?_,fun a ha b hb=> ?_⟩,hcl⟩
 ·have:=(fl_ix r1 ((hc r r1).2 .refl)).1;omega
 ·have:(fl (clC M k) M.length).length<=M.length:=by
   have:=List.length_filter_le (clC M k) (List.range M.length);rw[List.length_range]at this;exact this
  have:=h.2.1.1;omega
 ·exact hs.nn _ (fl_at ha).1 _ (fl_at hb).1
 ·obtain⟨a1,a2⟩:=fl_at ha;obtain⟨b1,b2⟩:=fl_at hb;generalize ha0:(fl (clC M k) M.length).getD a 0=u at*;generalize hb0:(fl (clC M k) M.length).getD b 0=v at*;have hw:Rch (adj M) M.length u v:=(r4 u a1).trans ((hc v b1).1 b2);have key:∀v,Rch (adj M) M.length u v->v<M.length/\clC M k v=true/\Rch (nzA (vals (subQ M (clC M k)))) (fl (clC M k) M.length).length a (ix (clC M k) v):=fun v hv=>by
   induction hv with
   |refl=>
    refine⟨a1,a2,?_⟩;rw[<-ha0,ix_fl ha];exact .refl
   | @step i j _ hi hj hij ih=>
    obtain⟨_,i2,i3⟩:=ih;have j2:clC M k j=true:=(hc j hj).2 (.step ((hc i hi).1 i2) hi hj hij);obtain⟨p1,p2⟩:=fl_ix hi i2;obtain⟨q1,q2⟩:=fl_ix hj j2;refine⟨hj,j2, .step i3 p1 q1 (decide_eq_true ?_)⟩;unfold vals subQ;rw[p2,q2];exact(ch_adj h i hi j hj).1 hij
  have:=(key v hw).2.2;rwa [<-hb0,ix_fl hb]at this
theorem hB_eq {c x:Nat} (h:2^0*c - 2=x):hB c 0=10^x:=by
 unfold hB;rw[h]
theorem sub_allB {M:List (List Q3)} (h:isCh M) (c:Nat->Bool):∃D,allB (subQ M c) (fl c M.length).length D (hB 29100 0):=by
 have hl:∀q∈M.flatten,low q:=fun q hq=>(all_below h q hq).1
 obtain⟨y,hy⟩:∃y,y=28800:=⟨_,rfl⟩
 have hD:dens M.flatten<=10^y:=Nat.le_trans (dens_le fun q hq=>(all_below h q hq).2) (Nat.pow_le_pow_right (by decide) (Nat.le_trans (Nat.mul_le_mul_left _ (flat_len h.2.1)) (by rw[hy];decide)));obtain⟨x,hx⟩:∃x,x=29098:=⟨_,rfl⟩
 have e:hB 29100 0=10^x:=hB_eq (by rw[hx]);refine⟨dens M.flatten,by rw[e];exact Nat.le_trans hD (Nat.pow_le_pow_right (by decide) (by omega)),fun a ha b hb=> ?_⟩;have hm:=mq_mem h (fl_at ha).1 (fl_at hb).1;refine hd_mono (dens_hd hl _ hm) ?_;have h1:=(all_below h _ hm).2.1;have h2:=Nat.mul_le_mul (Nat.le_of_lt h1) hD;rw[<-Nat.pow_add]at h2;rw[e];exact Nat.le_trans h2 (Nat.pow_le_pow_right (by decide) (by omega))
theorem wC_ok {M:List (List Q3)} (h:isCh M) {k:Int} (hk:posF 0 (clsM M).2=[k]) {z:Nat} (hz:z=59600000):∃e,0<e/\e<=10^z/\(∀a,a<(fl (clC M k) M.length).length->hd e (10^z) (wC M (clC M k) a)/\0<=qv (wC M (clC M k) a))/\(sumQ (tab (fl (clC M k) M.length).length (wC M (clC M k)))).2.1≠0/\
  bal (vals (subQ M (clC M k))) (fl (clC M k) M.length).length fun a=>qv (wC M (clC M k) a):=by
 obtain⟨h1,h2,h3,h4⟩:=sub_ok h hk;obtain⟨D,hD⟩:=sub_allB h (clC M k);obtain⟨e,e1,e2⟩:=wF_ok h2 (by decide) hD h3 ((fl (clC M k) M.length).length - 1) (by omega);have hb:=wF_bal h2 h1 (by decide) hD h3 ((fl (clC M k) M.length).length - 1) 0 (by omega);have hw:wB (fl (clC M k) M.length).length 29100 ((fl (clC M k) M.length).length - 1)<=10^z:=by
  unfold wB;apply Nat.pow_le_pow_right (by decide);have:2^((fl (clC M k) M.length).length - 1)<=2^11:=Nat.pow_le_pow_right (by decide) (by omega);exact Nat.le_trans (Nat.mul_le_mul_right _ (Nat.le_trans (Nat.sub_le _ _) this)) (by rw[hz];decide)
 have he:0<e:=(e2 0 (by omega)).1.2.1;have ha:∀a,a<(fl (clC M k) M.length).length->hd e (10^z) (wC M (clC M k) a)/\0<=qv (wC M (clC M k) a):=fun a ha=>by
  obtain⟨q1,q2⟩:=e2 a (by omega);exact⟨hd_mono q1 hw,q2⟩
 refine⟨e,he,Nat.le_trans e1 hw,ha,?_,hb⟩;obtain⟨s1,s2⟩:=sumT he fun a hh=>(ha a hh).1
 rw[ne_qv s1.1,s2];have h0:qv (wC M (clC M k) 0)=1:=by
  unfold wC;rw[wF_keep _ 0 0 _ (Nat.le_refl _) (Nat.zero_le _)];exact qv_oneQ
 have:=sm_term (f:=fun a=>qv (wC M (clC M k) a)) (fun a hh=>(ha a hh).2) 0 h1;rw[h0]at this;grind
theorem restI_ok {M:List (List Q3)} (h:isCh M) {k:Int} (hk:posF 0 (clsM M).2=[k]) {y:Nat} (hy:y=120000000):(∀j,j<M.length->low (restI M (clC M k) j)/\below y (restI M (clC M k) j))/\ker (vals (restA M)) M.length (ext M.length fun j=>qv (restI M (clC M k) j)):=by
 obtain⟨h1,h2,h3,h4⟩:=sub_ok h hk;obtain⟨x,hx⟩:∃x,x=59600000:=⟨_,rfl⟩
 obtain⟨e,e0,e1,e2,e3,e4⟩:=wC_ok h hk hx;obtain⟨s1,s2⟩:=sumT e0 fun a hh=>(e2 a hh).1
 have hs:=ch_stoch h;generalize hc:clC M k=c at*;have hlow:∀j,j<M.length->low (restI M c j)/\below y (restI M c j):=fun j hj=>by
  unfold restI
  by_cases hcj:c j=true
  ·rw[if_pos hcj];obtain⟨z,_,z2,z3,z4⟩:=hd_over (e2 _ (fl_ix hj hcj).1).1 s1 e3;refine⟨z4.1,hd_below z4 ?_ ?_⟩
   ·refine Nat.lt_of_le_of_lt (Nat.mul_le_mul_left _ e1) ?_;rw[<-Nat.pow_add];exact Nat.pow_lt_pow_right (by decide) (by omega)
   ·have t:e*z.natAbs<=10^x*(10^2*10^x):=Nat.mul_le_mul e1 (Nat.le_trans z3 (Nat.mul_le_mul_right _ (Nat.le_trans h2 (by decide))));refine Nat.lt_of_le_of_lt t ?_;rw[<-Nat.pow_add,<-Nat.pow_add];exact Nat.pow_lt_pow_right (by decide) (by omega)
  ·rw[if_neg hcj];exact⟨zeroQ_low,zeroQ_below (by omega)⟩
 refine⟨hlow,?_⟩;have hT:qv (sumQ (tab (fl c M.length).length (wC M c)))≠0:=(ne_qv s1.1).1 e3;have hv:∀j,j<M.length->qv (restI M c j)=if c j=true then qv (wC M c (ix c j))/qv (sumQ (tab (fl c M.length).length (wC M c)))else 0:=fun j hj=>by
  unfold restI
  by_cases hcj:c j=true
  ·rw[if_pos hcj,if_pos hcj];exact qv_over (e2 _ (fl_ix hj hcj).1).1.1 s1.1 e3
  ·rw[if_neg hcj,if_neg hcj];exact qv_zeroQ
 generalize hTe:qv (sumQ (tab (fl c M.length).length (wC M c)))=T at*;have sums:∀g:Nat->Rat,sm M.length (fun i=>qv (restI M c i)*g i)=sm (fl c M.length).length fun a=>qv (wC M c a)/T*g ((fl c M.length).getD a 0):=fun g=>by
  have:=sm_fl c (fun i=>qv (wC M c (ix c i))/T*g i) M.length;have e1:sm M.length (fun i=>qv (restI M c i)*g i)=sm M.length (fun i=>if c i=true then qv (wC M c (ix c i))/T*g i else 0):=sm_congr fun i hi=>by
   rw[hv i hi]
   by_cases hci:c i=true
   ·rw[if_pos hci,if_pos hci]
   ·rw[if_neg hci,if_neg hci,Rat.zero_mul]
  rw[e1,<-this];apply sm_congr;intro a ha;rw[ix_fl ha]
 have rows:∀b,b<(fl c M.length).length->sm (fl c M.length).length (vals (subQ M c) b)=1:=fun b hb=>by
  obtain⟨b1,b2⟩:=fl_at hb;have:=sm_fl c (fun i=>vals (mq M) ((fl c M.length).getD b 0) i) M.length;have e1:sm M.length (fun i=>if c i=true then vals (mq M) ((fl c M.length).getD b 0) i else 0)=sm M.length (vals (mq M) ((fl c M.length).getD b 0)):=sm_congr fun i hi=>by
   by_cases hci:c i=true
   ·rw[if_pos hci]
   ·rw[if_neg hci,h4 _ b1 b2 i hi (by simpa using hci)]
  rw[e1,hs.one _ b1]at this;exact this
 refine(restA_ker h _ 1 (by unfold ext;rw[if_pos rfl])).2 ⟨fun j hj=> ?_,?_⟩
 ·have e1:sm M.length (fun i=>ext M.length (fun j=>qv (restI M c j)) i*vals (mq M) i j)=sm M.length (fun i=>qv (restI M c i)*vals (mq M) i j):=sm_congr fun i hi=>by
   unfold ext;rw[if_neg (by omega)]
  have e2':ext M.length (fun j=>qv (restI M c j)) j=qv (restI M c j):=by
   unfold ext;rw[if_neg (by omega)]
  rw[e1,e2',sums,hv j hj]
  by_cases hcj:c j=true
  ·rw[if_pos hcj];obtain⟨j1,j2⟩:=fl_ix hj hcj;have hb:=e4 (ix c j) j1;rw[rows _ j1,Rat.mul_one]at hb;have:sm (fl c M.length).length (fun a=>qv (wC M c a)/T*vals (mq M) ((fl c M.length).getD a 0) j)=sm (fl c M.length).length (fun a=>T⁻¹*(qv (wC M c a)*vals (subQ M c) a (ix c j))):=sm_congr fun a ha=>by
    have:vals (subQ M c) a (ix c j)=vals (mq M) ((fl c M.length).getD a 0) j:=by
     unfold vals subQ;rw[j2]
    rw[this,Rat.div_def];grind
   rw[this,sm_mul,hb,Rat.div_def];grind
  ·rw[if_neg hcj];have:sm (fl c M.length).length (fun a=>qv (wC M c a)/T*vals (mq M) ((fl c M.length).getD a 0) j)=sm (fl c M.length).length (fun _=>0):=sm_congr fun a ha=>by
    obtain⟨a1,a2⟩:=fl_at ha;rw[h4 _ a1 a2 j hj (by simpa using hcj),Rat.mul_zero]
   rw[this,sm_zero]
 ·have e1:sm M.length (ext M.length fun j=>qv (restI M c j))=sm M.length (fun i=>qv (restI M c i)*1):=sm_congr fun i hi=>by
   unfold ext;rw[if_neg (by omega),Rat.mul_one]
  rw[e1,sums];have:sm (fl c M.length).length (fun a=>qv (wC M c a)/T*1)=sm (fl c M.length).length (fun a=>T⁻¹*qv (wC M c a)):=sm_congr fun a ha=>by
   rw[Rat.div_def];grind
  rw[this,sm_mul,<-s2];exact Rat.inv_mul_cancel _ hT
theorem rest_same {M:List (List Q3)} (h:isCh M) {k:Int} (hk:posF 0 (clsM M).2=[k]):∀j,j<M.length->solS (restA M) M.length j=restI M (clC M k) j:=by
 obtain⟨a1,a2⟩:=restI_ok h hk rfl;have hn:=restA_nons h hk;obtain⟨b1,b2⟩:=solS_ok (restA_low h) hn;intro j hj;exact qv_inj (b1 j hj) (a1 j hj).1 (sol_uniq hn b2 a2 j hj)
end Go.Cm
end
section
set_option linter.unusedVariables false
namespace Go.Cm
def hA (M:List (List Q3)) (tu:Bool) (c:Nat->Bool) (g:Nat->Q3):Nat->Nat->Q3:=fun a b=>
 if b=(fl c M.length).length then g ((fl c M.length).getD a 0)
 else if a=b then addQ (oppQ (if tu=true then subQ M c b a else subQ M c a b)) oneQ else oppQ (if tu=true then subQ M c b a else subQ M c a b)
theorem fl_le (c:Nat->Bool) (n:Nat):(fl c n).length<=n:=by
 have:=List.length_filter_le c (List.range n);rw[List.length_range]at this;exact this
theorem gB_eq {c x:Nat} (h:2^0*c - 1=x):gB c 0=10^x:=by
 unfold gB;rw[h]
end Go.Cm
end
section
set_option linter.unusedVariables false
namespace Go.Cm
def om (B r c:Nat) (a:Nat->Nat->Q3):List (List (Bool×(List Int×List Int))×Nat):=tab r fun i=>((tab c (a i)).map (rp B),c)
theorem om_len (B r c:Nat) (a:Nat->Nat->Q3):(om B r c a).length=r:=tab_len _ _
theorem om_congr {B r c:Nat} {a b:Nat->Nat->Q3} (h:∀i,i<r->∀j,j<c->a i j=b i j):om B r c a=om B r c b:=by
 unfold om;apply tab_congr;intro i hi;rw[tab_congr fun j hj=>h i hi j hj]
theorem om_at {B r c:Nat} {a:Nat->Nat->Q3} {i:Nat} (h:i<(om B r c a).length):(om B r c a)[i]=((tab c (a i)).map (rp B),c):=by
 exact tab_get _ (by rw[om_len]at h;exact h)
theorem om_hd {B r c:Nat} {a:Nat->Nat->Q3} {i:Nat} (h:i<r):(hd0 (om B r c a)).getD i (0,0)=(i,c):=by
 rw[hd0_at _ (by rw[om_len];exact h),om_at]
theorem om_in {B r c:Nat} {a:Nat->Nat->Q3} {i:Nat} (h:i<r):(in0 (om B r c a)).getD i []=(tab c (a i)).map (rp B):=by
 rw[in0_at _ (by rw[om_len];exact h),om_at]
theorem om_num {B c:Nat} {a:Nat->Q3} {j:Nat} (h:j<c) (d:Bool×(List Int×List Int)):((tab c a).map (rp B)).getD j d=rp B (a j):=by
 rw[List.getD_eq_getElem?_getD,List.getElem?_map,List.getElem?_eq_getElem (by rw[tab_len];exact h),tab_get _ h];rfl
def updM (a:Nat->Nat->Q3) (i j:Nat) (q:Q3):Nat->Nat->Q3:=fun x y=>if x=i/\y=j then q else a x y
theorem om_write {B r c:Nat} {a:Nat->Nat->Q3} {i j:Nat} (hi:i<r) (q:Q3):nrm (hd0 (om B r c a)) ((in0 (om B r c a)).set i (((tab c (a i)).map (rp B)).set j (rp B q)))=om B r c (updM a i j q):=by
 rw[nrm_write _ (by rw[om_len];exact hi),om_at];apply List.ext_getElem
 ·rw[List.length_set,om_len,om_len]
 ·intro x h1 h2;rw[List.length_set]at h1;rw[List.getElem_set,om_at h2];rw[om_len]at h2
  by_cases e:i=x
  ·subst e;rw[if_pos rfl];congr 1;rw[tab_map,tab_set,tab_map];apply tab_congr;intro y hy;unfold updM
   by_cases e2:y=j
   ·rw[if_pos e2,if_pos ⟨rfl,e2⟩]
   ·rw[if_neg e2,if_neg (fun q=>e2 q.2)]
  ·rw[if_neg e,om_at h1];congr 2;apply tab_congr;intro y hy;unfold updM;rw[if_neg (fun q=>e q.1.symm)]
theorem om_back {B r c:Nat} {a:Nat->Nat->Q3} {i:Nat} (hi:i<r):nrm (hd0 (om B r c a)) ((in0 (om B r c a)).set i ((tab c (a i)).map (rp B)))=om B r c a:=by
 rw[nrm_write _ (by rw[om_len];exact hi),om_at];apply List.ext_getElem
 ·rw[List.length_set]
 ·intro x h1 h2;rw[List.getElem_set]
  by_cases e:i=x
  ·subst e;rw[if_pos rfl,om_at]
  ·rw[if_neg e]
def okq (q:Q3):Prop:=low q/\below 350000000 q
structure rOk (a:Nat->Nat->Q3) (n k:Nat):Prop where
 kn:k<n
 n12:n<=12
 num:∀i,i<=k->∀j,j<=k->okq (a i j)
 f:∀i,i<k->okq (overQ (a i k) (outQ a k))
 out:okq (outQ a k)/\(outQ a k).2.1≠0
 par:∀i,i<=k->okq (sumQ (tab i (a k)))
 mul:∀i,i<k->∀j,j<k->okq (mulQ (overQ (a i k) (outQ a k)) (a k j))
theorem tab_take {α:Type} (k i:Nat) (f:Nat->α):(tab k f).take i=tab (min i k) f:=by
 unfold tab;rw[<-List.map_take,List.take_range]
structure redOk (a:Nat->Nat->Q3) (n:Nat):Prop where
 n0:0<n
 n12:n<=12
 red:∀k,0<k->k<n->rOk (gM n a (n - 1 - k)) n k
 w:∀k,k<n->∀i,i<=k->okq (wF (gM n a (n - 1)) k i)
 g:∀k,k<n->∀i,i<k->okq (gM n a (n - 1) i k)
 m:∀k,k+1<n->∀i,i<k+1->okq (mulQ (wF (gM n a (n - 1)) k i) (gM n a (n - 1) i (k+1)))
 d:∀k,k+1<n->∀i,i<=k+1->okq (dotQ (wF (gM n a (n - 1)) k) (fun i=>gM n a (n - 1) i (k+1)) i)
 s:∀j,j<=n->okq (sumQ (tab j (wF (gM n a (n - 1)) (n - 1))))
 s0:(sumQ (tab n (wF (gM n a (n - 1)) (n - 1)))).2.1≠0
theorem outQ_congr {a b:Nat->Nat->Q3} {k:Nat} (h:∀j,j<k->a k j=b k j):outQ a k=outQ b k:=by
 unfold outQ;rw[tab_congr h]
theorem gS_congr {a b:Nat->Nat->Q3} {n k:Nat} (hk:k<n) (h:∀i,i<n->∀j,j<n->a i j=b i j):∀i,i<n->∀j,j<n->gS a k i j=gS b k i j:=fun i hi j hj=>by
 unfold gS;rw[outQ_congr fun j hj=>h k hk j (by omega),h i hi k hk,h k hk j hj,h i hi j hj]
theorem gM_congr {a b:Nat->Nat->Q3} {n:Nat} (h:∀i,i<n->∀j,j<n->a i j=b i j):∀t,∀i,i<n->∀j,j<n->gM n a t i j=gM n b t i j
 |0=>h
 |t+1=>fun i hi j hj=>gS_congr (by omega) (gM_congr h t) i hi j hj
theorem dotQ_congr {w v m l:Nat->Q3} :∀ {n:Nat},(∀i,i<n->w i=v i/\m i=l i)->dotQ w m n=dotQ v l n
 |0,_=>rfl
 |n+1,h=>by
  rw[dotQ,dotQ,dotQ_congr (n:=n) fun i hi=>h i (by omega),(h n (by omega)).1,(h n (by omega)).2]
theorem wF_congr {F G:Nat->Nat->Q3} {n:Nat} (h:∀i,i<n->∀j,j<n->F i j=G i j):∀k,k<n->∀i,wF F k i=wF G k i
 |0,_,_=>rfl
 |k+1,hk,i=>by
  rw[wF,wF];dsimp only;rw[dotQ_congr fun j hj=>⟨wF_congr h k (by omega) j,h j (by omega) (k+1) hk⟩,wF_congr h k (by omega) i]
theorem om_inj {B r c r' c':Nat} (hB:2<=B) {a b:Nat->Nat->Q3} (h:om B r c a=om B r' c' b):r=r'/\(∀i,i<r->c=c'/\∀j,j<c->a i j=b i j):=by
 have hr:r=r':=by
  have:=congrArg List.length h;rwa [om_len,om_len]at this
 subst hr;refine⟨rfl,fun i hi=> ?_⟩;have h1:(hd0 (om B r c a)).getD i (0,0)=(hd0 (om B r c' b)).getD i (0,0):=by rw[h]
 rw[om_hd hi,om_hd hi]at h1;have hc:c=c':=congrArg Prod.snd h1;subst hc;refine⟨rfl,fun j hj=> ?_⟩;have h2:((in0 (om B r c a)).getD i []).getD j (rp B zeroQ)=((in0 (om B r c b)).getD i []).getD j (rp B zeroQ):=by rw[h]
 rw[om_in hi,om_in hi,om_num hj,om_num hj]at h2;have:=congrArg (rv B) h2;rwa [rv_rp hB,rv_rp hB]at this
end Go.Cm
end
section
set_option linter.unusedVariables false
namespace Go.Cm
theorem okq_of {D H:Nat} {q:Q3} (h:hd D H q) {c:Nat} (hc:c<=350000000) (h1:H<10^c) (h2:D<10^c):okq q:=⟨h.1,below_mono hc (hd_below h h1 h2)⟩
theorem rOk_of {a:Nat->Nat->Q3} {n k D H p:Nat} (hk:0<k) (kn:k<n) (n12:n<=12) (hp:p<=60000000) (h:allB a (k+1) D H) (hi:irr (vals a) (k+1)) (hH:H<=10^p):rOk a n k:=by
 obtain⟨s1,s2,O,s3,s4,s5,s6,s7,s8⟩:=gS_step hk (by omega) h hi;obtain⟨h1,h2⟩:=h;have hD:0<D:=(h2 0 (by omega) 0 (by omega)).2.1;have b1:12*H<10^(2*p+3):=by
  have t:12*H<=10^2*10^p:=Nat.mul_le_mul (by decide) hH;rw[<-Nat.pow_add]at t;exact Nat.lt_of_le_of_lt t (Nat.pow_lt_pow_right (by decide) (by omega))
 have b2:H<10^(2*p+3):=by omega
 have b3:H*H<10^(2*p+3):=by
  have t:H*H<=10^p*10^p:=Nat.mul_le_mul hH hH;rw[<-Nat.pow_add]at t;exact Nat.lt_of_le_of_lt t (Nat.pow_lt_pow_right (by decide) (by omega))
 have b4:O*D<10^(2*p+3):=by
  have t:O*D<=(10^2*10^p)*10^p:=Nat.mul_le_mul (Nat.le_trans s3 (Nat.mul_le_mul (by decide) hH)) (Nat.le_trans h1 hH);rw[<-Nat.pow_add,<-Nat.pow_add]at t;exact Nat.lt_of_le_of_lt t (Nat.pow_lt_pow_right (by decide) (by omega))
 have hc:2*p+3<=350000000:=by omega
 refine⟨kn,n12,fun i hi j hj=>okq_of (h2 i (by omega) j (by omega)) hc b2 (by omega),fun i hi=> ?_,⟨okq_of s1 hc b1 (by omega),s2⟩,fun i hi=> ?_,fun i hi j hj=>okq_of (s8 i hi j hj) hc b3 b4⟩
 ·have:=s4 i hi;unfold gS at this;rw[if_pos hi,if_pos rfl]at this;exact okq_of this hc b2 (by omega)
 ·have t:=(sumT hD (k:=i) (f:=a k) fun j hj=>h2 k (by omega) j (by omega)).1;refine okq_of t hc ?_ (by omega);have:i*H<=12*H:=Nat.mul_le_mul_right _ (by omega);omega
theorem hB_le {c t p:Nat} (hc:c=29100) (ht:t<=11) (hp:p=60000000):hB c t<=10^p:=by
 unfold hB;apply Nat.pow_le_pow_right (by decide);have:2^t*c<=2^11*c:=Nat.mul_le_mul_right _ (Nat.pow_le_pow_right (by decide) ht);have e:2^11=2048:=by decide
 rw[e]at this;omega
theorem red_steps {a:Nat->Nat->Q3} {n c D:Nat} (n12:n<=12) (hc:c=29100) (h:allB a n D (hB c 0)) (hi:irr (vals a) n):∀k,0<k->k<n->rOk (gM n a (n - 1 - k)) n k:=fun k hk kn=>by
 obtain⟨⟨E,g1⟩,g2⟩:=gM_ok n12 (by omega) h hi (n - 1 - k) (by omega);rw[show n - (n - 1 - k)=k+1 by omega]at g1 g2;obtain⟨p,hp⟩:∃p,p=60000000:=⟨_,rfl⟩
 exact rOk_of hk kn n12 (by omega) g1 g2 (hB_le hc (by omega) hp)
theorem wB_le {n c k p:Nat} (hc:c=29100) (hn:n<=12) (hp:p=60000000):wB n c k<=10^p:=by
 unfold wB;apply Nat.pow_le_pow_right (by decide);have t:2^(n - 1)<=2^11:=Nat.pow_le_pow_right (by decide) (by omega);have:(2^(n - 1) - 2^(n - 1 - k))*c<=2^11*c:=Nat.mul_le_mul_right _ (Nat.le_trans (Nat.sub_le _ _) t);have e:2^11=2048:=by decide
 rw[e]at this;omega
theorem red_col {a:Nat->Nat->Q3} {n c D p:Nat} (n12:n<=12) (hc:c=29100) (hp:p=60000000) (h:allB a n D (hB c 0)) (hi:irr (vals a) n) {k:Nat} (hk:0<k) (kn:k<n):∃O,0<O/\O<=12*10^p/\∀i,i<k->hd O (10^p) (gM n a (n - 1) i k):=by
 obtain⟨⟨E,g1⟩,g2⟩:=gM_ok n12 (by omega) h hi (n - 1 - k) (by omega);rw[show n - (n - 1 - k)=k+1 by omega]at g1 g2;obtain⟨s1,s2,O,s3,s4,_⟩:=gS_step hk (by omega) g1 g2;have hH:=hB_le hc (show n - 1 - k<=11 by omega) hp;refine⟨O,(s4 0 hk).2.1,Nat.le_trans s3 (Nat.mul_le_mul_left _ hH),fun i hik=> ?_⟩;have:=s4 i hik;rw[gM_keep hik (t:=n - 1 - k) (by omega) (n - 1) (by omega) (by omega),gM,show n - 1 - (n - 1 - k)=k by omega];exact hd_mono this hH
theorem redOk_of {a:Nat->Nat->Q3} {n c D:Nat} (n0:0<n) (n12:n<=12) (hc:c=29100) (h:allB a n D (hB c 0)) (hi:irr (vals a) n):redOk a n:=by
 obtain⟨p,hp⟩:∃p,p=60000000:=⟨_,rfl⟩
 have hcc:2*p+3<=350000000:=by omega
 have p0:0<10^p:=Nat.pow_pos (by decide);have q1:∀k:Nat,k<=12->k*(10^p*10^p)<10^(2*p+3):=fun k hk=>by
  have t:k*(10^p*10^p)<=10^2*(10^p*10^p):=Nat.mul_le_mul_right _ (by omega);have u:10^2*(10^p*10^p)=10^(2+(p+p)):=by rw[Nat.pow_add,Nat.pow_add]
  rw[u]at t;exact Nat.lt_of_le_of_lt t (Nat.pow_lt_pow_right (by decide) (show 2+(p+p)<2*p+3 by omega))
 have q2:∀k:Nat,k<=12->k*10^p<10^(2*p+3):=fun k hk=>Nat.lt_of_le_of_lt (Nat.mul_le_mul_left _ (Nat.le_mul_of_pos_left _ p0)) (q1 k hk)
 have w:∀k,k<n->∃e,0<e/\e<=10^p/\∀i,i<=k->hd e (10^p) (wF (gM n a (n - 1)) k i)/\0<=qv (wF (gM n a (n - 1)) k i):=fun k hk=>by
  obtain⟨e,e1,e2⟩:=wF_ok n12 (by omega) h hi k hk;have hb:=wB_le (k:=k) hc n12 hp;exact⟨e,(e2 0 (by omega)).1.2.1,Nat.le_trans e1 hb,fun i hik=>⟨hd_mono (e2 i hik).1 hb,(e2 i hik).2⟩⟩
 refine⟨n0,n12,red_steps n12 hc h hi,fun k hk i hik=> ?_,fun k hk i hik=> ?_,fun k hk i hik=> ?_,fun k hk i hik=> ?_,fun j hj=> ?_,?_⟩
 ·obtain⟨e,e0,e1,e2⟩:=w k hk;exact okq_of (e2 i hik).1 hcc (by have:=q2 1 (by decide);omega) (by have:=q2 1 (by decide);omega)
 ·obtain⟨O,o0,o1,o2⟩:=red_col n12 hc hp h hi (k:=k) (by omega) hk;exact okq_of (o2 i hik) hcc (by have:=q2 1 (by decide);omega) (by have:=q2 12 (by decide);omega)
 ·obtain⟨e,e0,e1,e2⟩:=w k (by omega);obtain⟨O,o0,o1,o2⟩:=red_col n12 hc hp h hi (k:=k+1) (by omega) hk;refine okq_of (hd_mul (e2 i (by omega)).1 (o2 i hik)) hcc (by have:=q1 1 (by decide);omega) ?_;have t:e*O<=10^p*(12*10^p):=Nat.mul_le_mul e1 o1;rw[Nat.mul_left_comm]at t;exact Nat.lt_of_le_of_lt t (q1 12 (by decide))
 ·obtain⟨e,e0,e1,e2⟩:=w k (by omega);obtain⟨O,o0,o1,o2⟩:=red_col n12 hc hp h hi (k:=k+1) (by omega) hk;have:=dotQ_hd e0 o0 (n:=i) (w:=wF (gM n a (n - 1)) k) (m:=fun i=>gM n a (n - 1) i (k+1)) fun j hj=>⟨(e2 j (by omega)).1,o2 j (by omega)⟩
  refine okq_of this hcc (q1 i (by omega)) ?_;have t:e*O<=10^p*(12*10^p):=Nat.mul_le_mul e1 o1;rw[Nat.mul_left_comm]at t;exact Nat.lt_of_le_of_lt t (q1 12 (by decide))
 ·obtain⟨e,e0,e1,e2⟩:=w (n - 1) (by omega);have:=(sumT e0 (k:=j) (f:=wF (gM n a (n - 1)) (n - 1)) fun i hij=>(e2 i (by omega)).1).1;exact okq_of this hcc (q2 j (by omega)) (by have:=q2 1 (by decide);omega)
 ·obtain⟨e,e0,e1,e2⟩:=w (n - 1) (by omega);obtain⟨s1,s2⟩:=sumT e0 (k:=n) (f:=wF (gM n a (n - 1)) (n - 1)) fun i hij=>(e2 i (by omega)).1
  rw[ne_qv s1.1,s2];have h0:qv (wF (gM n a (n - 1)) (n - 1) 0)=1:=by
   rw[wF_keep _ 0 0 _ (Nat.le_refl _) (Nat.zero_le _)];exact qv_oneQ
  have:=sm_term (f:=fun a'=>qv (wF (gM n a (n - 1)) (n - 1) a')) (fun a' hh=>(e2 a' (by omega)).2) 0 n0;rw[h0]at this;grind
end Go.Cm
end
section
set_option linter.unusedVariables false
namespace Go.Cm
theorem loop_from {X R:Type} {b:X->(X->Option R)->Option R} {s n:Nat} {st:Nat->X} {F:Nat->Option R} (hs:s<=n) (hstep:∀i g,s<=i->i<n->g (st (i+1))=F (i+1)->b (st i) g=F i) (hend:∀g,b (st n) g=F n) {k:Nat} (hk:n - s<k):loopP b k (st s)=F s:=
 loop_up0 (b:=b) (n:=n - s) (st:=fun i=>st (s+i)) (F:=fun i=>F (s+i)) (fun i g hi hg=>hstep (s+i) g (by omega) (by omega) hg) (fun g=>by
  have:=hend g;rwa [show n=s+(n - s) by omega]at this) hk
theorem joinH_hd0 {α:Type} (m l:List (List α×Nat)):joinH (in0 m).length (hd0 m) (hd0 l)=hd0 (m++l):=by
 unfold joinH hd0;rw[in0_length,List.mapIdx_append];congr 1;apply List.ext_getElem
 ·simp
 ·intro i h1 h2;simp
theorem in0_snoc {α:Type} (m:List (List α×Nat)) (v:List α) (c:Nat):in0 m++[v]=in0 (m++[(v,c)]):=by
 unfold in0;simp
theorem om_snoc (B a c:Nat) (f:Nat->Nat->Q3):om B a c f++[((tab c (f a)).map (rp B),c)]=om B (a+1) c f:=by
 unfold om;rw[tab_succ]
theorem om_app {B a c:Nat} {f:Nat->Nat->Q3} :(dup ((joinH (in0 (om B a c f)).length (hd0 (om B a c f)) (hd0 [((tab c (f a)).map (rp B),c)])).map fun y=>y.1)=false)/\nrm (joinH (in0 (om B a c f)).length (hd0 (om B a c f)) (hd0 [((tab c (f a)).map (rp B),c)])) (in0 (om B a c f)++[(tab c (f a)).map (rp B)])=om B (a+1) c f:=by
 rw[joinH_hd0,om_snoc];refine⟨hd0_dup _,?_⟩;rw[in0_snoc _ _ c,om_snoc,nrm_hd0]
theorem tabm_snoc (B a:Nat) (f:Nat->Q3):(tab a f).map (rp B)++[rp B (f a)]=(tab (a+1) f).map (rp B):=by
 rw[tab_succ,List.map_append];rfl
def restT (M:List (List Q3)):List Q3×Bool:=
 match posF 0 (clsM M).2 with
 | [k]=>(tab M.length (restI M (clC M k)),true)
 |_=>([],false)
theorem restT_one {M:List (List Q3)} {k:Int} (h:posF 0 (clsM M).2=[k]):restT M=(tab M.length (restI M (clC M k)),true):=by
 unfold restT;rw[h]
theorem restT_none {M:List (List Q3)} (h:(posF 0 (clsM M).2).length≠1):restT M=([],false):=by
 unfold restT;split
 ·rename_i k e;rw[e]at h;exact absurd rfl h
 ·rfl
theorem len_one {α:Type} {xs:List α} (h:xs.length=1):∃x,xs=[x]:=List.length_eq_one_iff.1 h
theorem mq_held {B:Nat} {M:List (List Q3)} (h:isM M) {i j:Nat} (hi:i<M.length) (hj:j<M.length):((mp B M).getD i []).getD j (false,(([]:List Int),([]:List Int)))=rp B (mq M i j):=by
 rw[mp_at hi,getD_rp B (by rw[(isM_row h hi).1];exact hj)];rfl
theorem mq_wide {B:Nat} {M:List (List Q3)} (h:isM M) {i:Nat} (hi:i<M.length):((mp B M).getD i []).length=M.length:=by
 rw[mp_at hi,List.length_map,(isM_row h hi).1]
theorem clC_at {M:List (List Q3)} {k:Int} {i:Nat} (hi:i<M.length):((clsM M).1.getD i 0==k)=clC M k i:=by
 have hl:=(clsF_len (rcB M) M.length M.length).1;unfold clC
 have e:∀d,(clsM M).1.getD i d=(clsM M).1[i]'(by unfold clsM clsQ;rw[hl];exact hi):=fun d=>by
  rw[List.getD_eq_getElem?_getD,List.getElem?_eq_getElem (by unfold clsM clsQ;rw[hl];exact hi)];rfl
 rw[e,e,Bool.eq_iff_iff,beq_iff_eq,decide_eq_true_eq]
def puts (n:Nat) (c:Nat->Bool) (v:Nat->Q3) (d:Nat->Q3) (a:Nat):List Q3:=tab n fun j=>if c j=true/\ix c j<a then v (ix c j)else d j
theorem puts_step {n:Nat} {c:Nat->Bool} {v:Nat->Q3} {d:Nat->Q3} {a:Nat} (h:a<(fl c n).length):(puts n c v d a).set ((fl c n).getD a 0) (v a)=puts n c v d (a+1):=by
 unfold puts;rw[tab_set];apply tab_congr;intro j hj;obtain⟨f1,f2⟩:=fl_at h;have f3:=ix_fl h
 by_cases e:j=(fl c n).getD a 0
 ·subst e;rw[if_pos rfl,if_pos ⟨f2,by omega⟩,f3]
 ·rw[if_neg e]
  by_cases hc:c j=true
  ·have hne:ix c j≠a:=fun q=>by
    have:=(fl_ix hj hc).2;rw[q]at this;exact e this.symm
   by_cases hlt:ix c j<a
   ·rw[if_pos ⟨hc,hlt⟩,if_pos ⟨hc,by omega⟩]
   ·rw[if_neg (fun q=>hlt q.2),if_neg (fun q=>hlt (by omega))]
  ·rw[if_neg (fun q=>hc q.1),if_neg (fun q=>hc q.1)]
theorem puts_zero {n:Nat} {c:Nat->Bool} {v:Nat->Q3} {d:Nat->Q3} :puts n c v d 0=tab n d:=by
 unfold puts;apply tab_congr;intro j hj;rw[if_neg (by omega)]
theorem puts_all {n:Nat} {c:Nat->Bool} {v:Nat->Q3} {d:Nat->Q3} :puts n c v d (fl c n).length=tab n fun j=>if c j=true then v (ix c j)else d j:=by
 unfold puts;apply tab_congr;intro j hj
 by_cases hc:c j=true
 ·rw[if_pos ⟨hc,(fl_ix hj hc).1⟩,if_pos hc]
 ·rw[if_neg (fun q=>hc q.1),if_neg hc]
theorem puts_set {B n:Nat} {c:Nat->Bool} {v:Nat->Q3} {d:Nat->Q3} {a:Nat} (h:a<(fl c n).length):((puts n c v d a).map (rp B)).set ((fl c n).getD a 0) (rp B (v a))=(puts n c v d (a+1)).map (rp B):=by
 rw[<-puts_step h,List.map_set]
theorem puts_len {n:Nat} {c:Nat->Bool} {v:Nat->Q3} {d:Nat->Q3} {a:Nat} :(puts n c v d a).length=n:=tab_len _ _
theorem tab_rep {α:Type} (n:Nat) (x:α):List.replicate n x=tab n fun _=>x:=by
 unfold tab;rw[List.map_const',List.length_range]
end Go.Cm
end
section
set_option linter.unusedVariables false
namespace Go.Cm
theorem om_hd0 (B r c:Nat) (a:Nat->Nat->Q3):hd0 (om B r c a)=tab r fun i=>(i,c):=by
 apply List.ext_getElem
 ·rw[hd0_length,om_len,tab_len]
 ·intro i h1 h2;rw[tab_len]at h2;have:=om_hd (B:=B) (c:=c) (a:=a) h2;rw[List.getD_eq_getElem?_getD,List.getElem?_eq_getElem h1]at this;rw[tab_get _ h2];exact this
theorem sw_inj {k l i j:Nat} (h:sw k l i=sw k l j):i=j:=by
 have:=congrArg (sw k l) h;rwa [sw_sw,sw_sw]at this
theorem om_swap {B r c:Nat} {a:Nat->Nat->Q3} {i k:Nat} (hi:i<r) (hk:k<r):((hd0 (om B r c a)).set i ((hd0 (om B r c a)).getD k (0,0))).set k ((hd0 (om B r c a)).getD i (0,0))=tab r fun x=>(sw i k x,c):=by
 rw[om_hd hi,om_hd hk,om_hd0,tab_set,tab_set];apply tab_congr;intro x hx;unfold sw
 by_cases h1:x=k
 ·rw[if_pos h1]
  by_cases h2:x=i
  ·rw[if_pos h2];congr 1;omega
  ·rw[if_neg h2,if_pos h1]
 ·rw[if_neg h1]
  by_cases h2:x=i
  ·rw[if_pos h2,if_pos h2]
  ·rw[if_neg h2,if_neg h2,if_neg h1]
theorem tab_nodup {n:Nat} {f:Nat->Nat} (h:∀i j,f i=f j->i=j):(tab n f).Nodup:=by
 unfold List.Nodup;rw[List.pairwise_iff_getElem];intro i j hi hj hij;rw[tab_len]at hi hj;rw[tab_get _ hi,tab_get _ hj];intro e;have:=h _ _ e;omega
theorem sw_dup {r c i k:Nat} :dup ((tab r fun x=>(sw i k x,c)).map fun y=>y.1)=false:=by
 rw[tab_map];exact nodup_dup (tab_nodup fun _ _ h=>sw_inj h)
theorem sw_nrm {B r c:Nat} {a:Nat->Nat->Q3} {i k:Nat} (hi:i<r) (hk:k<r):nrm (tab r fun x=>(sw i k x,c)) (in0 (om B r c a))=om B r c (swQ a i k):=by
 unfold nrm;rw[tab_map];unfold om;apply tab_congr;intro x hx;have:=om_in (B:=B) (c:=c) (a:=a) (sw_lt hi hk hx);unfold om at this;rw[this];rfl
structure elOk (b:Nat->Nat->Q3) (n k:Nat):Prop where
 kn:k<n
 n12:n<=12
 num:∀i,i<n->∀j,j<=n->okq (b i j)
 piv:(b k k).2.1≠0
 f:∀i,i<n->okq (overQ (b i k) (b k k))
 mul:∀i,i<n->∀j,j<=n->okq (mulQ (overQ (b i k) (b k k)) (b k j))
structure elsOk (full:Bool) (a:Nat->Nat->Q3) (n:Nat):Prop where
 n12:n<=12
 num:∀k,k<=n->∀i,i<n->∀j,j<=n->okq (elim full n a k i j)
 piv:∀k,k<n->k<=pvt (elim full n a k) n k/\pvt (elim full n a k) n k<n/\(elim full n a k (pvt (elim full n a k) n k) k).2.1≠0
 el:∀k,k<n->elOk (swQ (elim full n a k) k (pvt (elim full n a k) n k)) n k
 dia:∀k,k<n->(elim full n a n k k).2.1≠0
theorem gB_le {c k p:Nat} (hc:c=3000) (hk:k<=12) (hp:p=12300000):gB c k<10^p:=by
 unfold gB;apply Nat.pow_lt_pow_right (by decide);have t:2^k*c<=2^12*c:=Nat.mul_le_mul_right _ (Nat.pow_le_pow_right (by decide) hk);have e:2^12=4096:=by decide
 rw[e]at t;omega
theorem elsOk_of {full:Bool} {a:Nat->Nat->Q3} {n c:Nat} (hc:c=3000) (n12:n<=12) (h:rowsB a n c 0) (hn:nons (vals a) n):elsOk full a n:=by
 obtain⟨p,hp⟩:∃p,p=12300000:=⟨_,rfl⟩
 have c0:0<c:=by omega
 have hl:lowM a n:=fun i hi j hj=>rowB_low (h i hi) j hj
 have hr:=elim_rows (full:=full) c0 h hn;have he:=elim_ok (full:=full) hl hn;have hb:∀x,x<=12->∀ {q:Q3},low q->∀D H,hd D H q->H<=gB c x*gB c x*gB c x->D<=gB c x*gB c x*gB c x->okq q:=fun x hx q lq D H hq hH hD=>by
  have g:=gB_le hc hx hp;have g2:gB c x*gB c x*gB c x<10^(p+p+p):=by
   rw[Nat.pow_add,Nat.pow_add];exact Nat.mul_lt_mul'' (Nat.mul_lt_mul'' g g) g
  exact okq_of hq (show p+p+p<=350000000 by omega) (by omega) (by omega)
 have one:∀x,1<=gB c x:=fun x=>gB_pos c x
 have up1:∀x,gB c x<=gB c x*gB c x*gB c x:=fun x=>Nat.le_trans (Nat.le_mul_of_pos_left _ (one x)) (Nat.le_mul_of_pos_right _ (one x))
 have up2:∀x,gB c x*gB c x<=gB c x*gB c x*gB c x:=fun x=>Nat.le_mul_of_pos_right _ (one x)
 have num:∀k,k<=n->∀i,i<n->∀j,j<=n->okq (elim full n a k i j):=fun k hk i hi j hj=>by
  obtain⟨d,d1,d2⟩:=hr k hk i hi;exact hb k (by omega) (d2 j hj).1 d _ (d2 j hj) (up1 k) (Nat.le_trans d1 (up1 k))
 have piv:∀k,k<n->k<=pvt (elim full n a k) n k/\pvt (elim full n a k) n k<n/\(elim full n a k (pvt (elim full n a k) n k) k).2.1≠0:=fun k hk=>(he (k+1) (by omega)).2.2.2 k (by omega)
 refine⟨n12,num,piv,fun k hk=> ?_,fun k hk=> ?_⟩
 ·obtain⟨p1,p2,p3⟩:=piv k hk;have hkk:sw k (pvt (elim full n a k) n k) k=pvt (elim full n a k) n k:=by
   unfold sw;rw[if_pos rfl]
  have sl:∀i,i<n->sw k (pvt (elim full n a k) n k) i<n:=fun i hi=>sw_lt hk p2 hi
  have pv:(swQ (elim full n a k) k (pvt (elim full n a k) n k) k k).2.1≠0:=by
   unfold swQ;rw[hkk];exact p3
  have er:∀i,i<n->_:=fun i hi=>el_row (a:=swQ (elim full n a k) k (pvt (elim full n a k) n k)) (hr k (by omega) _ (sl i hi)) (hr k (by omega) _ (sl k hk)) (Nat.le_of_lt hk) pv
  refine⟨hk,n12,fun i hi j hj=>num k (by omega) _ (sl i hi) j hj,pv,fun i hi=> ?_,fun i hi j hj=> ?_⟩
  ·obtain⟨_,⟨D,D1,D2⟩,_⟩:=er i hi;exact hb k (by omega) D2.1 D _ D2 (up2 k) (Nat.le_trans D1 (up2 k))
  ·obtain⟨_,_,t⟩:=er i hi;obtain⟨D,D1,D2⟩:=t j hj;exact hb k (by omega) D2.1 D _ D2 (Nat.le_refl _) D1
 ·obtain⟨l1,l2,_⟩:=he n (Nat.le_refl _);exact(ne_qv (l1 k hk k (by omega))).2 (l2 k hk).1
theorem restA_rows {M:List (List Q3)} (h:isCh M):rowsB (restA M) M.length 3000 0:=fun j hj=>by
 have hn:=h.2.1.1;obtain⟨x,hx⟩:∃x,x=2999:=⟨_,rfl⟩
 have e0:gB 3000 0=10^x:=gB_eq (by rw[hx]);have hl:∀r∈tab M.length fun i=>mq M i j,low r/\below 200 r:=fun r hr=>by
  obtain⟨i,hi,rfl⟩:=tab_mem.1 hr;exact⟨(ch_at h hi hj).1,(ch_at h hi hj).2.1⟩
 have hL:(tab M.length fun i=>mq M i j).length<=12:=by rw[tab_len];exact hn
 have hm:∀i,i<M.length->mq M i j∈tab M.length fun i=>mq M i j:=fun i hi=>tab_mem.2 ⟨i,hi,rfl⟩
 generalize (tab M.length fun i=>mq M i j)=L at*;have hp:0<dens L:=dens_pos fun r hr=>(hl r hr).1
 obtain⟨y,hy⟩:∃y,y=2400:=⟨_,rfl⟩
 have hD:dens L<=10^y:=Nat.le_trans (dens_le fun r hr=>(hl r hr).2) (Nat.pow_le_pow_right (by decide) (by omega));have hb:∀k:Nat,k<=10^211->k*dens L<=gB 3000 0:=fun k hk=>by
  have:=Nat.mul_le_mul hk hD;rw[<-Nat.pow_add]at this;rw[e0];exact Nat.le_trans this (Nat.pow_le_pow_right (by decide) (by omega))
 have b1:=hb 1 (Nat.pow_pos (by decide));refine⟨dens L,by omega,fun i hi=> ?_⟩;unfold restA;split
 ·split
  ·exact hd_mono (hd_one hp) (by omega)
  ·exact hd_zero hp _
 ·split
  ·exact hd_mono (hd_one hp) (by omega)
  ·have hmb:=hm i (by omega);have hh:hd (dens L) (10^200*dens L) (mq M i j):=hd_mono (dens_hd (fun r hr=>(hl r hr).1) _ hmb) (Nat.mul_le_mul_right _ (Nat.le_of_lt (hl _ hmb).2.1));split
   ·refine hd_mono (hd_add hh (hd_opp (hd_one hp))) ?_;have:=hb (10^200+1) (by
     have:10^200+1<=10^200*10^11:=by
      have:0<10^200:=Nat.pow_pos (by decide);generalize 10^200=X at*;omega
     rwa [<-Nat.pow_add]at this)
    rw[Nat.add_mul,Nat.one_mul]at this;exact this
   ·exact hd_mono hh (hb _ (Nat.pow_le_pow_right (by decide) (by decide)))
theorem elim_congr {full:Bool} {a b:Nat->Nat->Q3} {n:Nat} (h:∀i,i<n->∀j,j<=n->a i j=b i j) (hp:∀k,k<n->pvt (elim full n a k) n k<n):∀k,k<=n->∀i,i<n->∀j,j<=n->elim full n a k i j=elim full n b k i j
 |0,_=>h
 |k+1,hk=>fun i hi j hj=>by
  have ih:=elim_congr h hp k (by omega);have hkn:k<n:=by omega
  have hpv:pvt (elim full n a k) n k=pvt (elim full n b k) n k:=by
   unfold pvt;have:∀f i,i+f<=n->pvF (fun i=>decide ((elim full n a k i k).2.1≠0)) f i=pvF (fun i=>decide ((elim full n b k i k).2.1≠0)) f i:=by
    intro f
    induction f with
    |zero=>intro i _;rfl
    |succ f ihf=>
     intro i hif;unfold pvF;rw[ih i (by omega) k (by omega),ihf (i+1) (by omega)]
   exact this _ _ (by omega)
  have p2:=hp k hkn;rw[elim,elim,<-hpv];generalize pvt (elim full n a k) n k=p at*;have e:∀x,x<n->∀y,y<=n->swQ (elim full n a k) k p x y=swQ (elim full n b k) k p x y:=fun x hx y hy=>ih _ (sw_lt hkn p2 hx) y hy
  unfold elF elE;rw[e i hi j hj,e i hi k (by omega),e k hkn k (by omega),e k hkn j hj]
end Go.Cm
end
section
set_option linter.unusedVariables false
namespace Go.Cm
theorem okq_low {B:Nat} (hB:10^9<=B) {q:Q3} (h:okq q):lowb B 40000000 (rp B q)=true:=lowb_rp9 hB h.1 h.2 (by decide)
theorem okq_200 {q:Q3} (h:low q/\below 200 q):okq q:=⟨h.1,below_mono (by decide) h.2⟩
end Go.Cm
end
section
set_option linter.unusedVariables false
namespace Go.Cm
def mat (n:Nat) (a:Nat->Nat->Q3):List (List Q3):=tab n fun i=>tab n (a i)
theorem mat_len (n:Nat) (a:Nat->Nat->Q3):(mat n a).length=n:=tab_len _ _
theorem idi (xs:List Int):xs.map (fun y=>y)=xs:=List.map_id' xs
theorem om_view {B n:Nat} {a:Nat->Nat->Q3} :(om B n n a).map (fun y=>(y.1.take y.2).map fun z=>(z.1,z.2.1.map (fun y=>y),z.2.2.map (fun y=>y)))=mp B (mat n a):=by
 unfold om mat mp;rw[tab_map,tab_map];apply tab_congr;intro i hi;dsimp only;rw[List.take_of_length_le (by rw[List.length_map,tab_len];exact Nat.le_refl _),List.map_map];apply List.map_congr_left;intro q hq;show((rp B q).1,(rp B q).2.1.map (fun y=>y),(rp B q).2.2.map (fun y=>y))=rp B q;rw[idi,idi]
theorem zeros_om {B n:Nat} :List.replicate n (List.replicate n (rp B zeroQ),n)=om B n n (fun _ _=>zeroQ):=by
 unfold om;rw[tab_rep,tab_rep];apply tab_congr;intro i hi;rw[tab_map]
def okM (M:List (List Q3)):Prop:=M.length<=12/\∀r∈M,r.length<=12/\∀q∈r,okq q
theorem okM_mat {n:Nat} {a:Nat->Nat->Q3} (hn:n<=12) (h:∀i,i<n->∀j,j<n->okq (a i j)):okM (mat n a):=by
 refine⟨by rw[mat_len];exact hn,fun r hr=> ?_⟩;obtain⟨i,hi,rfl⟩:=tab_mem.1 hr;refine⟨by rw[tab_len];exact hn,fun q hq=> ?_⟩;obtain⟨j,hj,rfl⟩:=tab_mem.1 hq;exact h i hi j hj
end Go.Cm
end
section
set_option linter.unusedVariables false
namespace Go.Cm
def oneK (M:List (List Q3)):Bool:=decide ((clsM M).2.length=1)
theorem oneK_iff {M:List (List Q3)} (h:isCh M):oneK M=true↔∀i,i<M.length->(clsM M).1.getD i 0=0:=by
 have ok:=cls_ok M;have h0:=h.1;have hd:∀i,i<M.length->(clsM M).1.getD i 0=(clsM M).1.getD i (-1):=fun i hi=>by
  have hl:=ok.len;rw[List.getD_eq_getElem?_getD,List.getD_eq_getElem?_getD,List.getElem?_eq_getElem (by omega)];rfl
 unfold oneK;rw[decide_eq_true_eq];constructor
 ·intro h1 i hi;rw[hd i hi];have a:=ok.all i hi;have b:=ok.num i hi;rw[h1]at b;omega
 ·intro h1;have hpos:0<(clsM M).2.length:=by
   have a:=ok.all 0 (by omega);have b:=ok.num 0 (by omega);rcases b with b|b<;>omega
  apply Classical.byContradiction;intro h2;obtain⟨r,r1,r2,_⟩:=ok.rep 1 (by omega);have:=(r2 r r1).2 ⟨RB_refl M r r1,RB_refl M r r1⟩;rw[<-hd r r1,h1 r r1]at this;exact absurd this (by decide)
theorem one_pos {M:List (List Q3)} (h:isCh M) (h1:oneK M=true):posF 0 (clsM M).2=[0]:=by
 have ok:=cls_ok M;unfold oneK at h1;rw[decide_eq_true_eq]at h1;obtain⟨b,hb⟩:=len_one h1;obtain⟨r,r1,r2,r3⟩:=ok.rep 0 (by omega);have h2:=(oneK_iff h).1 (by unfold oneK;rw[h1];rfl);have hd:∀i,i<M.length->(clsM M).1.getD i (-1)=0:=fun i hi=>by
  have a:=ok.all i hi;have b:=ok.num i hi;rw[h1]at b;omega
 have:(clsM M).2.getD 0 false=true:=r3.2 fun j hj hr=>((r2 j hj).1 (by rw[hd j hj];rfl)).2
 rw[hb]at this ⊢;have hbt:b=true:=this;rw[hbt];rfl
theorem one_all {M:List (List Q3)} (h:isCh M) (h1:oneK M=true) {i:Nat} (hi:i<M.length):clC M 0 i=true:=by
 have:=(oneK_iff h).1 h1 i hi;rw[<-clC_at hi,this];rfl
theorem one_rch {M:List (List Q3)} (h:isCh M) (h1:oneK M=true) {i j:Nat} (hi:i<M.length) (hj:j<M.length):Rch (adj M) M.length i j:=by
 obtain⟨r,r1,r2,r3,r4⟩:=one_closed (one_pos h h1);have a:=one_all h h1 hj;unfold clC at a;rw[decide_eq_true_eq]at a;exact(r4 i hi).trans ((r2 j hj).1 a).1
theorem restI_nn {M:List (List Q3)} (h:isCh M) {k:Int} (hk:posF 0 (clsM M).2=[k]) {j:Nat} (hj:j<M.length):0<=qv (restI M (clC M k) j):=by
 obtain⟨x,hx⟩:∃x,x=59600000:=⟨_,rfl⟩
 obtain⟨e,e0,e1,e2,e3,e4⟩:=wC_ok h hk hx;obtain⟨s1,s2⟩:=sumT e0 fun a hh=>(e2 a hh).1
 unfold restI
 by_cases hcj:clC M k j=true
 ·rw[if_pos hcj,qv_over (e2 _ (fl_ix hj hcj).1).1.1 s1.1 e3];have hs:0<=qv (sumQ (tab (fl (clC M k) M.length).length (wC M (clC M k)))):=by
   rw[s2];exact sm_nonneg fun a ha=>(e2 a ha).2
  have hw:=(e2 _ (fl_ix hj hcj).1).2;have hne:=(ne_qv s1.1).1 e3;have:0<qv (sumQ (tab (fl (clC M k) M.length).length (wC M (clC M k)))):=by grind
  rw[Rat.div_def];exact Rat.mul_nonneg hw (by have:=Rat.inv_pos.2 this;grind)
 ·rw[if_neg hcj,qv_zeroQ];exact Rat.le_refl
theorem one_rest {M:List (List Q3)} (h:isCh M) (h1:oneK M=true) {i:Nat} (hi:i<M.length):(restI M (clC M 0) i).2.1≠0:=by
 have hk:=one_pos h h1;obtain⟨a1,a2⟩:=restI_ok h hk rfl;have hs:=ch_stoch h;have hadj:=ch_adj h;obtain⟨b1,b2⟩:=(restA_ker h _ 1 (by unfold ext;rw[if_pos rfl])).1 a2;have hx:∀j,j<M.length->ext M.length (fun j=>qv (restI M (clC M 0) j)) j=qv (restI M (clC M 0) j):=fun j hj=>by
  unfold ext;rw[if_neg (by omega)]
 rw[ne_qv (a1 i hi).1];intro hz;have key:∀j,Rch (adj M) M.length j i->j<M.length->qv (restI M (clC M 0) j)=0:=by
  intro j hr hj;have back:∀l,Rch (adj M) M.length j l->l<M.length->qv (restI M (clC M 0) l)=0->qv (restI M (clC M 0) j)=0:=by
   intro l hl
   induction hl with
   |refl=>exact fun _ q=>q
   | @step m l h1 hm hl' ha ih=>
    intro hl hq;apply ih hm;have e:=b1 l hl;rw[hx l hl,hq]at e;have e2:sm M.length (fun i=>ext M.length (fun j=>qv (restI M (clC M 0) j)) i*vals (mq M) i l)=sm M.length fun i=>qv (restI M (clC M 0) i)*vals (mq M) i l:=sm_congr fun i hi=>by rw[hx i hi]
    rw[e2]at e;have t:=sm_eq_zero (fun i hi=>Rat.mul_nonneg (restI_nn h hk hi) (hs.nn i hi l hl)) e.symm m hm;rcases Rat.mul_eq_zero.1 t with t|t
    ·exact t
    ·exact absurd t ((hadj m hm l hl).1 ha)
  exact back i hr hi hz
 have e2:sm M.length (ext M.length fun j=>qv (restI M (clC M 0) j))=0:=by
  rw[<-sm_zero M.length];exact sm_congr fun j hj=>by rw[hx j hj,key j (one_rch h h1 hj hi) hj]
 rw[e2]at b2;exact absurd b2 (by decide)
def revQ (M:List (List Q3)):Nat->Nat->Q3:=fun i j=>overQ (mulQ (restI M (clC M 0) j) (mq M j i)) (restI M (clC M 0) i)
theorem rev_ok {M:List (List Q3)} (h:isCh M) (h1:oneK M=true):(∀i,i<M.length->okq (restI M (clC M 0) i))/\∀i,i<M.length->∀j,j<M.length->okq (mulQ (restI M (clC M 0) j) (mq M j i))/\okq (revQ M i j):=by
 obtain⟨y,hy⟩:∃y,y=120000000:=⟨_,rfl⟩
 obtain⟨a1,_⟩:=restI_ok h (one_pos h h1) hy;refine⟨fun i hi=>⟨(a1 i hi).1,below_mono (by omega) (a1 i hi).2⟩,fun i hi j hj=> ?_⟩;obtain⟨c1,c2,_⟩:=ch_at h hj hi;have m1:=mulQ_low _ _ (a1 j hj).1 c1;have m2:=mulQ_below (a1 j hj).2 c2;refine⟨⟨m1,below_mono (by omega) m2⟩,?_⟩;unfold revQ;exact⟨overQ_low _ _ m1 (a1 i hi).1 (one_rest h h1 hi),below_mono (by omega) (overQ_below m2 (a1 i hi).2)⟩
end Go.Cm
end
section
set_option linter.unusedVariables false
namespace Go.Cm
theorem ch_mat {M:List (List Q3)} (h:isCh M):M=mat M.length (mq M):=by
 unfold mat;apply List.ext_getElem
 ·rw[tab_len]
 ·intro i h1 h2;rw[tab_get _ h1];have:=ch_row h h1;rw[List.getD_eq_getElem?_getD,List.getElem?_eq_getElem h1]at this;exact this
theorem mat_inj {n:Nat} {a b:Nat->Nat->Q3} (h:mat n a=mat n b) {i j:Nat} (hi:i<n) (hj:j<n):a i j=b i j:=by
 have h1:((mat n a).getD i []).getD j zeroQ=((mat n b).getD i []).getD j zeroQ:=by rw[h]
 unfold mat at h1;rw[tab_getD _ _ hi,tab_getD _ _ hi,tab_getD _ _ hj,tab_getD _ _ hj]at h1;exact h1
def eqF (M:List (List Q3)) (i j:Nat):Bool:=decide (mq M i j=revQ M i j)
theorem eqF_all {M:List (List Q3)} (h:isCh M):((List.range M.length).all fun i=>(List.range M.length).all (eqF M i))=decide (M=mat M.length (revQ M)):=by
 rw[Bool.eq_iff_iff,decide_eq_true_eq,List.all_eq_true];constructor
 ·intro h1;have:mat M.length (mq M)=mat M.length (revQ M):=by
   unfold mat;apply tab_congr;intro i hi;apply tab_congr;intro j hj;have h2:=h1 i (List.mem_range.2 hi);rw[List.all_eq_true]at h2;have h3:=h2 j (List.mem_range.2 hj);unfold eqF at h3;exact of_decide_eq_true h3
  exact(ch_mat h).trans this
 ·intro h1 i hi;rw[List.mem_range]at hi;rw[List.all_eq_true];intro j hj;rw[List.mem_range]at hj;unfold eqF;exact decide_eq_true (mat_inj ((ch_mat h).symm.trans h1) hi hj)
def irT (u:List (List ByteArray)):Bool:=(chQ u).2&&(oneK (chQ u).1&&decide ((chQ u).1=mat (chQ u).1.length (revQ (chQ u).1)))
theorem ch_okM {M:List (List Q3)} (h:isCh M):okM M:=by
 have:=okM_mat (n:=M.length) (a:=mq M) h.2.1.1 fun i hi j hj=>okq_200 ⟨(ch_at h hi hj).1,(ch_at h hi hj).2.1⟩
 rwa [<-ch_mat h]at this
theorem drop_eq {α:Type} [DecidableEq α] {xs ys:List α} {i:Nat} (hx:i<xs.length) (hy:i<ys.length):decide (xs.drop i=ys.drop i)=(decide (xs[i]=ys[i])&&decide (xs.drop (i+1)=ys.drop (i+1))):=by
 rw[List.drop_eq_getElem_cons hx,List.drop_eq_getElem_cons hy,Bool.eq_iff_iff,Bool.and_eq_true,decide_eq_true_eq,decide_eq_true_eq,decide_eq_true_eq,List.cons.injEq]
end Go.Cm
end
