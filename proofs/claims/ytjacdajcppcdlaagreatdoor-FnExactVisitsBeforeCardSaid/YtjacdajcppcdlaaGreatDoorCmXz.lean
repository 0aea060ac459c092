import Derived.Test.YtjacdajcppcdlaaGreatDoorCmQz
section
set_option linter.unusedVariables false
namespace Go.Cm
def sm:Nat->(Nat->Rat)->Rat
 |0,_=>0
 |n+1,f=>sm n f+f n
theorem a1g {f g:Nat->Rat} :∀ {n:Nat},(∀i,i<n->f i=g i)->sm n f=sm n g
 |0,_=>rfl
 |n+1,h=>by
  rw[sm,sm,a1g fun i hi=>h i (by omega),h n (by omega)]
theorem b9z:∀n:Nat,sm n (fun _=>0)=0
 |0=>rfl
 |n+1=>by
  rw[sm,b9z n,Rat.add_zero]
theorem d7o (f g:Nat->Rat):∀n:Nat,sm n (fun i=>f i+g i)=sm n f+sm n g
 |0=>by rw[sm,sm,sm,Rat.add_zero]
 |n+1=>by
  rw[sm,sm,sm,d7o f g n];grind
theorem d7p (c:Rat) (f:Nat->Rat):∀n:Nat,sm n (fun i=>c*f i)=c*sm n f
 |0=>by rw[sm,sm,Rat.mul_zero]
 |n+1=>by
  rw[sm,sm,d7p c f n];grind
theorem sm_neg (f:Nat->Rat) (n:Nat):sm n (fun i=> -f i)= -sm n f:=by
 have:=d7p (-1) f n;rw[show(fun i=> -f i)=fun i=> -1*f i by funext i;grind,this];grind
theorem d2g (f g:Nat->Rat) (n:Nat):sm n (fun i=>f i - g i)=sm n f - sm n g:=by
 rw[show(fun i=>f i - g i)=fun i=>f i+ -g i by funext i;grind,d7o,sm_neg];grind
theorem sm_swap (f:Nat->Nat->Rat) (m:Nat):∀n:Nat,sm n (fun i=>sm m (f i))=sm m (fun j=>sm n (fun i=>f i j))
 |0=>by
  rw[sm];exact(b9z m).symm
 |n+1=>by
  rw[sm,sm_swap f m n,<-d7o];rfl
theorem sm_le {f g:Nat->Rat} :∀ {n:Nat},(∀i,i<n->f i<=g i)->sm n f<=sm n g
 |0,_=>Rat.le_refl
 |n+1,h=>by
  have a:=sm_le (f:=f) (g:=g) (n:=n) fun i hi=>h i (by omega)
  have b:=h n (by omega);rw[sm,sm];grind
theorem sm_nonneg {f:Nat->Rat} {n:Nat} (h:∀i,i<n->0<=f i):0<=sm n f:=by
 have:=sm_le (f:=fun _=>0) (g:=f) h;rwa [b9z]at this
theorem sm_term {f:Nat->Rat} :∀ {n:Nat},(∀i,i<n->0<=f i)->∀i,i<n->f i<=sm n f
 |0,_,i,hi=>by omega
 |n+1,h,i,hi=>by
  have p:=sm_nonneg (f:=f) (n:=n) fun i hi=>h i (by omega)
  rw[sm]
  by_cases e:i=n
  ·subst e;grind
  ·have a:=sm_term (f:=f) (n:=n) (fun i hi=>h i (by omega)) i (by omega);have b:=h n (by omega);grind
theorem d7q {f:Nat->Rat} {n:Nat} (h:∀i,i<n->0<=f i) (hz:sm n f=0) (i:Nat) (hi:i<n):f i=0:=by
 have a:=sm_term h i hi;have b:=h i hi;grind
theorem d2h (c:Nat->Rat) (k:Nat):∀n:Nat,sm n (fun i=>if i=k then c i else 0)=if k<n then c k else 0
 |0=>rfl
 |n+1=>by
  rw[sm,d2h c k n]
  by_cases h:k=n
  ·subst h;rw[if_neg (by omega),if_pos rfl,if_pos (by omega),Rat.zero_add]
  ·rw[if_neg (show ¬n=k from fun e=>h e.symm),Rat.add_zero]
   by_cases h2:k<n
   ·rw[if_pos h2,if_pos (by omega)]
   ·rw[if_neg h2,if_neg (by omega)]
def hd (D H:Nat) (r:Q3):Prop:=low r/\0<D/\∃z:Int,qv r*(D:Rat)=(z:Rat)/\z.natAbs<=H
theorem a4p {D H G:Nat} {r:Q3} (h:hd D H r) (hg:H<=G):hd D G r:=by
 obtain⟨a,b,z,c,d⟩:=h;exact⟨a,b,z,c,by omega⟩
theorem hd_ints {D H:Nat} {r:Q3} (h:hd D H r):∃z:Int,sgZ r.1 r.2.1*(D:Int)=z*(r.2.2:Int)/\z.natAbs<=H:=by
 obtain⟨a,b,z,c,d⟩:=h;refine⟨z,?_,d⟩;unfold qv at c;rw[Rat.mkRat_eq_div]at c;have hb:((r.2.2:Nat):Rat)≠0:=by
  have:(0:Rat)<((r.2.2:Nat):Rat):=Rat.natCast_pos.2 a.1;grind
 have e:((sgZ r.1 r.2.1:Int):Rat)*(D:Rat)=(z:Rat)*((r.2.2:Nat):Rat):=by
  have:((sgZ r.1 r.2.1:Int):Rat)/((r.2.2:Nat):Rat)*((r.2.2:Nat):Rat)=((sgZ r.1 r.2.1:Int):Rat):=Rat.div_mul_cancel hb;rw[<-c];grind
 have e2:((sgZ r.1 r.2.1*(D:Int):Int):Rat)=((z*(r.2.2:Int):Int):Rat):=by
  rw[Rat.intCast_mul,Rat.intCast_mul];exact e
 exact Rat.intCast_inj.1 e2
theorem sgZ_abs (n:Bool) (p:Nat):(sgZ n p).natAbs=p:=by
 unfold sgZ;split<;>omega
theorem hd_below {D H n:Nat} {r:Q3} (h:hd D H r) (h1:H<10^n) (h2:D<10^n):below n r:=by
 obtain⟨z,e,hz⟩:=hd_ints h;obtain⟨⟨a1,a2,a3⟩,b,_⟩:=h;have e2:r.2.1*D=z.natAbs*r.2.2:=by
  have:=congrArg Int.natAbs e;rw[Int.natAbs_mul,Int.natAbs_mul,sgZ_abs]at this;simpa using this
 have hd1:r.2.2 ∣ r.2.1*D:=⟨z.natAbs,by rw[e2,Nat.mul_comm]⟩
 have hd2:r.2.2 ∣ D:=Nat.Coprime.dvd_of_dvd_mul_left (Nat.Coprime.symm a3) hd1;have hle:r.2.2<=D:=Nat.le_of_dvd b hd2;have hn:r.2.1<=z.natAbs:=by
  have:r.2.1*D<=z.natAbs*D:=by
   rw[e2];exact Nat.mul_le_mul_left _ hle
  exact Nat.le_of_mul_le_mul_right this b
 exact⟨by omega,by omega⟩
theorem d7r {D H G:Nat} {x y:Q3} (hx:hd D H x) (hy:hd D G y):hd D (H+G) (b4b x y):=by
 obtain⟨a,b,z,c,d⟩:=hx;obtain⟨a',b',z',c',d'⟩:=hy;refine⟨c4x _ _ a a',b,z+z',?_,by omega⟩;rw[c1y a a',Rat.intCast_add,<-c,<-c',Rat.add_mul]
theorem hd_mul {D H E G:Nat} {x y:Q3} (hx:hd D H x) (hy:hd E G y):hd (D*E) (H*G) (c7m x y):=by
 obtain⟨a,b,z,c,d⟩:=hx;obtain⟨a',b',z',c',d'⟩:=hy;refine⟨b8r _ _ a a',Nat.mul_pos b b',z*z',?_,by rw[Int.natAbs_mul];exact Nat.mul_le_mul d d'⟩;rw[c8l a a',Rat.intCast_mul,<-c,<-c',Rat.natCast_mul];grind
theorem hd_opp {D H:Nat} {x:Q3} (hx:hd D H x):hd D H (b6d x):=by
 obtain⟨a,b,z,c,d⟩:=hx;refine⟨b0i _ a,b, -z,?_,by omega⟩;rw[d4l a,Rat.intCast_neg,<-c,Rat.neg_mul]
theorem c4e {D H:Nat} {x:Q3} (hx:hd D H x) {k:Nat} (hk:0<k):hd (D*k) (H*k) x:=by
 obtain⟨a,b,z,c,d⟩:=hx;refine⟨a,Nat.mul_pos b hk,z*k,?_,by rw[Int.natAbs_mul];exact Nat.mul_le_mul_right _ d⟩;rw[Rat.intCast_mul,<-c,Rat.natCast_mul];show qv x*(↑D* ↑k)=qv x* ↑D*((k:Int):Rat);rw[Rat.intCast_natCast];grind
theorem d2i {D:Nat} (hD:0<D) (H:Nat):hd D H a0q:=by
 refine⟨b0j,hD,0,?_,by omega⟩;rw[a5r,Rat.zero_mul];rfl
theorem hd_one {D:Nat} (hD:0<D):hd D D a6j:=by
 refine⟨b3q,hD,(D:Int),?_,by omega⟩;rw[b2w,Rat.one_mul,Rat.intCast_natCast]
theorem hd_self {r:Q3} (h:low r):hd r.2.2 r.2.1 r:=by
 refine⟨h,h.1,sgZ r.1 r.2.1,?_,by rw[sgZ_abs];exact Nat.le_refl _⟩;have hb:((r.2.2:Nat):Rat)≠0:=by
  have:(0:Rat)<((r.2.2:Nat):Rat):=Rat.natCast_pos.2 h.1;grind
 unfold qv;rw[Rat.mkRat_eq_div];exact Rat.div_mul_cancel hb
def b9d:List Q3->Nat
 | []=>1
 |r::rs=>r.2.2*b9d rs
theorem c4f:∀ {rs:List Q3},(∀r∈rs,low r)->0<b9d rs
 | [],_=>Nat.one_pos
 |r::rs,h=>Nat.mul_pos (h r (List.mem_cons_self ..)).1 (c4f fun q hq=>h q (List.mem_cons_of_mem _ hq))
theorem e0d:∀ {rs:List Q3},(∀r∈rs,low r)->∀r∈rs,hd (b9d rs) (r.2.1*b9d rs) r
 | [],_,_,hr=>by cases hr
 |q::rs,h,r,hr=>by
  have hq:=h q (List.mem_cons_self ..);have hp:=c4f fun q hq=>h q (List.mem_cons_of_mem _ hq)
  rcases List.mem_cons.1 hr with rfl|hr
  ·refine a4p (c4e (hd_self hq) hp) ?_;rw[b9d];exact Nat.mul_le_mul_left _ (Nat.le_mul_of_pos_left _ hq.1)
  ·have:=c4e (e0d (fun q hq=>h q (List.mem_cons_of_mem _ hq)) r hr) hq.1;rw[Nat.mul_comm,Nat.mul_assoc,Nat.mul_comm (b9d rs)]at this;exact this
theorem dens_le {n:Nat} :∀ {rs:List Q3},(∀r∈rs,below n r)->b9d rs<=10^(n*rs.length)
 | [],_=>by simp [b9d]
 |r::rs,h=>by
  have a:=(h r (List.mem_cons_self ..)).2;have b:=dens_le fun q hq=>h q (List.mem_cons_of_mem _ hq)
  rw[b9d,List.length_cons,Nat.mul_succ,Nat.add_comm,Nat.pow_add];exact Nat.mul_le_mul (by omega) b
def mq (M:List (List Q3)):Nat->Nat->Q3:=fun i j=>(M.getD i []).getD j a0q
theorem c1k {M:List (List Q3)} (h:b2a M) {i j:Nat} (hi:i<M.length) (hj:j<M.length):low (mq M i j)/\below 200 (mq M i j)/\(mq M i j).1=false:=by
 have e:M.getD i []=M[i]:=by simp [List.getD_eq_getElem?_getD,hi]
 obtain⟨_,h2,h3⟩:=h;obtain⟨h4,h5⟩:=h2.2 _ (List.getElem_mem hi);obtain⟨h6,_⟩:=h3 _ (List.getElem_mem hi);unfold mq;rw[e];have hj':j<M[i].length:=by omega
 have e2:M[i].getD j a0q=M[i][j]:=by simp [List.getD_eq_getElem?_getD,hj']
 rw[e2];exact⟨(h6 _ (List.getElem_mem hj')).1,(h6 _ (List.getElem_mem hj')).2,h5 _ (List.getElem_mem hj')⟩
end Go.Cm
end
section
set_option linter.unusedVariables false
namespace Go.Cm
def ker (a:Nat->Nat->Rat) (n:Nat) (x:Nat->Rat):Prop:=∀i,i<n->sm (n+1) (fun j=>a i j*x j)=0
def e2v (a:Nat->Nat->Rat) (n:Nat):Prop:=∀x,ker a n x->x n=0->∀j,j<n->x j=0
def tri (full:Bool) (a:Nat->Nat->Rat) (n k:Nat):Prop:=∀c,c<k->a c c≠0/\∀i,i<n->(c<i\/full=true/\i≠c)->a i c=0
def comb (a:Nat->Nat->Rat) (k:Nat) (f:Nat->Rat):Nat->Nat->Rat:=fun i j=>a i j - f i*a k j
theorem comb_ker {a:Nat->Nat->Rat} {k n:Nat} {f:Nat->Rat} (hf:f k=0) (hk:k<n) (x:Nat->Rat):ker (comb a k f) n x↔ker a n x:=by
 have e:∀i,sm (n+1) (fun j=>comb a k f i j*x j)=sm (n+1) (fun j=>a i j*x j) - f i*sm (n+1) (fun j=>a k j*x j):=fun i=>by
  rw[<-d7p,<-d2g];apply a1g;intro j _;unfold comb;grind
 have ek:sm (n+1) (fun j=>comb a k f k j*x j)=sm (n+1) (fun j=>a k j*x j):=by
  rw[e k,hf];grind
 constructor
 ·intro h i hi;have h1:=h i hi;have h2:=h k hk;rw[ek]at h2;rw[e i,h2]at h1;grind
 ·intro h i hi;rw[e i,h i hi,h k hk];grind
def sw (k l i:Nat):Nat:=if i=k then l else if i=l then k else i
theorem sw_lt {k l i n:Nat} (hk:k<n) (hl:l<n) (hi:i<n):sw k l i<n:=by
 unfold sw;split
 ·exact hl
 ·split<;>assumption
theorem sw_sw (k l i:Nat):sw k l (sw k l i)=i:=by
 unfold sw
 by_cases h1:i=k
 ·subst h1;rw[if_pos rfl]
  by_cases h2:l=i
  ·rw[if_pos h2,h2]
  ·rw[if_neg h2,if_pos rfl]
 ·rw[if_neg h1]
  by_cases h2:i=l
  ·rw[if_pos h2,if_pos rfl,h2]
  ·rw[if_neg h2,if_neg h1,if_neg h2]
theorem sw_ker {a:Nat->Nat->Rat} {k l n:Nat} (hk:k<n) (hl:l<n) (x:Nat->Rat):ker (fun i=>a (sw k l i)) n x↔ker a n x:=by
 constructor
 ·intro h i hi;have:=h (sw k l i) (sw_lt hk hl hi);dsimp only at this;rwa [sw_sw]at this
 ·intro h i hi;exact h (sw k l i) (sw_lt hk hl hi)
theorem sw_tri {full:Bool} {a:Nat->Nat->Rat} {k l n:Nat} (h:tri full a n k) (hk:k<n) (hl:k<=l) (hn:l<n):tri full (fun i=>a (sw k l i)) n k:=by
 intro c hc;obtain⟨h1,h2⟩:=h c hc;have ec:sw k l c=c:=by
  unfold sw;rw[if_neg (by omega),if_neg (by omega)]
 refine⟨by show a (sw k l c) c≠0;rw[ec];exact h1,fun i hi hd=> ?_⟩;show a (sw k l i) c=0;apply h2 _ (sw_lt hk hn hi);have hne:i≠c:=by
  rcases hd with hd|hd
  ·omega
  ·exact hd.2
 unfold sw;split
 ·left;omega
 ·split
  ·left;omega
  ·exact hd
theorem tri_vec {a:Nat->Nat->Rat} {n k:Nat} (hk:k<n) (h:tri false a n k):∀m,m<=k->∃x:Nat->Rat,x k=1/\(∀j,k<j->x j=0)/\∀i,k - m<=i->i<k->sm (n+1) (fun j=>a i j*x j)=0
 |0,_=>⟨fun j=>if j=k then 1 else 0,by simp,fun j hj=>if_neg (by omega),fun i h1 h2=>by omega⟩
 |m+1,hm=>by
  obtain⟨x,x1,x2,x3⟩:=tri_vec hk h m (by omega);have hc:k - (m+1)<k:=by omega
  generalize hce:k - (m+1)=c at*;obtain⟨p,z⟩:=h c hc;refine⟨fun j=>if j=c then x c - sm (n+1) (fun j=>a c j*x j)/a c c else x j,by simp [show k≠c by omega,x1],fun j hj=>(if_neg (by omega)).trans (x2 j hj),fun i h1 h2=> ?_⟩;have e:sm (n+1) (fun j=>a i j*(if j=c then x c - sm (n+1) (fun j=>a c j*x j)/a c c else x j))=sm (n+1) (fun j=>a i j*x j) - a i c*(sm (n+1) (fun j=>a c j*x j)/a c c):=by
   have:=d2h (fun j=>a i j*(sm (n+1) (fun j=>a c j*x j)/a c c)) c (n+1);rw[if_pos (by omega)]at this;rw[<-this,<-d2g];apply a1g;intro j _
   by_cases hj:j=c
   ·subst hj;rw[if_pos rfl,if_pos rfl];grind
   ·rw[if_neg hj,if_neg hj];grind
  rw[e]
  by_cases hi:i=c
  ·subst hi;have:a i i*(sm (n+1) (fun j=>a i j*x j)/a i i)=sm (n+1) (fun j=>a i j*x j):=by
    rw[Rat.mul_comm,Rat.div_mul_cancel p]
   rw[this];grind
  ·rw[z i (by omega) (Or.inl (by omega)),x3 i (by omega) h2];grind
theorem tri_less {full:Bool} {a:Nat->Nat->Rat} {n k:Nat} (h:tri full a n k):tri false a n k:=fun c hc=>⟨(h c hc).1,fun i hi hd=>(h c hc).2 i hi (Or.inl (by
 rcases hd with hd|hd
 ·exact hd
 ·cases hd.1))⟩
theorem pivot_ex {full:Bool} {a:Nat->Nat->Rat} {n k:Nat} (hk:k<n) (ht:tri full a n k) (hn:e2v a n):∃i,k<=i/\i<n/\a i k≠0:=by
 apply Classical.byContradiction;intro hno;have hz:∀i,k<=i->i<n->a i k=0:=fun i h1 h2=>Classical.byContradiction fun h3=>hno ⟨i,h1,h2,h3⟩
 obtain⟨x,x1,x2,x3⟩:=tri_vec hk (tri_less ht) k (Nat.le_refl _);have hx:ker a n x:=by
  intro i hi
  by_cases hik:i<k
  ·exact x3 i (by omega) hik
  ·have:sm (n+1) (fun j=>a i j*x j)=sm (n+1) (fun _=>0):=by
    apply a1g;intro j _
    by_cases h1:j<k
    ·rw[(tri_less ht j h1).2 i hi (Or.inl (by omega)),Rat.zero_mul]
    ·by_cases h2:j=k
     ·subst h2;rw[hz i (by omega) hi,Rat.zero_mul]
     ·rw[x2 j (by omega),Rat.mul_zero]
   rw[this,b9z]
 have:=hn x hx (x2 n hk) k hk;rw[x1]at this;exact absurd this (by decide)
theorem comb_tri {full:Bool} {a:Nat->Nat->Rat} {n k:Nat} (hk:k<n) (ht:tri full a n k) (hp:a k k≠0):tri full (comb a k fun i=>if(k<i\/full=true/\i≠k)then a i k/a k k else 0) n (k+1):=by
 intro c hc
 by_cases hck:c=k
 ·subst hck;refine⟨?_,fun i hi hd=> ?_⟩
  ·unfold comb;dsimp only;rw[if_neg (fun h=>by
    rcases h with h|h
    ·omega
    ·exact h.2 rfl)]
   have:a c c - 0*a c c=a c c:=by grind
   rw[this];exact hp
  ·unfold comb;dsimp only;rw[if_pos hd,Rat.div_mul_cancel hp];grind
 ·have hc':c<k:=by omega
  obtain⟨h1,h2⟩:=ht c hc';have hz:a k c=0:=h2 k hk (Or.inl hc');refine⟨?_,fun i hi hd=> ?_⟩
  ·unfold comb;rw[hz,Rat.mul_zero];have:a c c - 0=a c c:=by grind
   rw[this];exact h1
  ·unfold comb;rw[hz,Rat.mul_zero,h2 i hi hd];grind
theorem nons_of {a b:Nat->Nat->Rat} {n:Nat} (h:∀x,ker b n x->ker a n x) (hn:e2v a n):e2v b n:=fun x hx h0=>hn x (h x hx) h0
theorem full_sol {a:Nat->Nat->Rat} {n:Nat} (h:tri true a n n):ker a n fun j=>if j=n then -1 else a j n/a j j:=by
 intro i hi;have e:sm n (fun j=>a i j*(if j=n then -1 else a j n/a j j))=a i n:=by
  have:=d2h (fun j=>a j n) i n;rw[if_pos hi]at this;rw[<-this];apply a1g;intro j hj;rw[if_neg (by omega)]
  by_cases hji:j=i
  ·subst hji;rw[if_pos rfl,Rat.mul_comm,Rat.div_mul_cancel (h j hj).1]
  ·rw[if_neg hji,(h j hj).2 i hi (Or.inr ⟨rfl,fun q=>hji q.symm⟩),Rat.zero_mul]
 rw[sm,e];dsimp only;rw[if_pos rfl];grind
def smB (n k:Nat) (f:Nat->Rat):Rat:=sm n fun j=>if k<j then f j else 0
theorem tri_sol {a:Nat->Nat->Rat} {n:Nat} (h:tri false a n n) {x:Nat->Rat} (hx:∀k,k<n->x k=(a k n - smB n k fun j=>a k j*x j)/a k k) (h1:x n= -1):ker a n x:=by
 intro i hi;have e:sm n (fun j=>a i j*x j)=smB n i (fun j=>a i j*x j)+a i i*x i:=by
  have:=d2h (fun j=>a j j*x j) i n;rw[if_pos hi]at this;unfold smB;rw[<-this,<-d7o];apply a1g;intro j hj
  by_cases h1:i<j
  ·rw[if_pos h1,if_neg (by omega),Rat.add_zero]
  ·rw[if_neg h1]
   by_cases h2:j=i
   ·subst h2;rw[if_pos rfl,Rat.zero_add]
   ·rw[if_neg h2,(h j hj).2 i hi (Or.inl (by omega)),Rat.zero_mul,Rat.add_zero]
 have e2:a i i*x i=a i n - smB n i fun j=>a i j*x j:=by
  rw[hx i hi,Rat.mul_comm,Rat.div_mul_cancel (h i hi).1]
 rw[sm,e,e2,h1];grind
def pvF (p:Nat->Bool):Nat->Nat->Nat
 |0,i=>i
 |f+1,i=>if p i=true then i else pvF p f (i+1)
theorem pvF_ok (p:Nat->Bool):∀(f i:Nat),i<=pvF p f i/\pvF p f i<=i+f/\((∃j,i<=j/\j<i+f/\p j=true)->pvF p f i<i+f/\p (pvF p f i)=true)
 |0,i=>⟨Nat.le_refl _,Nat.le_refl _,fun⟨j,h1,h2,_⟩=>by omega⟩
 |f+1,i=>by
  unfold pvF
  by_cases h:p i=true
  ·rw[if_pos h];exact⟨Nat.le_refl _,by omega,fun _=>⟨by omega,h⟩⟩
  ·rw[if_neg h];obtain⟨a,b,c⟩:=pvF_ok p f (i+1);refine⟨by omega,by omega,fun⟨j,h1,h2,h3⟩=> ?_⟩;have hj:j≠i:=fun e=>h (e▸h3)
   obtain⟨d,e⟩:=c ⟨j,by omega,by omega,h3⟩;exact⟨by omega,e⟩
def pvt (a:Nat->Nat->Q3) (n k:Nat):Nat:=pvF (fun i=>decide ((a i k).2.1≠0)) (n - k) k
def elE (a:Nat->Nat->Q3) (k i j:Nat):Q3:=b4b (a i j) (b6d (c7m (b0p (a i k) (a k k)) (a k j)))
def elF (full:Bool) (a:Nat->Nat->Q3) (k:Nat):Nat->Nat->Q3:=fun i j=>
 if(k<i\/full=true/\i≠k)/\(a i k).2.1≠0/\k<=j then elE a k i j else a i j
def swQ (a:Nat->Nat->Q3) (k l:Nat):Nat->Nat->Q3:=fun i=>a (sw k l i)
def elim (full:Bool) (n:Nat) (a:Nat->Nat->Q3):Nat->Nat->Nat->Q3
 |0=>a
 |k+1=>elF full (swQ (elim full n a k) k (pvt (elim full n a k) n k)) k
def a3c (a:Nat->Nat->Q3):Nat->Nat->Rat:=fun i j=>qv (a i j)
def lowM (a:Nat->Nat->Q3) (n:Nat):Prop:=∀i,i<n->∀j,j<=n->low (a i j)
theorem ne_qv {r:Q3} (h:low r):r.2.1≠0↔qv r≠0:=by rw[Ne,Ne,c3d h]
theorem elE_low {a:Nat->Nat->Q3} {n k i j:Nat} (h:lowM a n) (hk:k<n) (hi:i<n) (hj:j<=n) (hp:(a k k).2.1≠0):low (elE a k i j)/\qv (elE a k i j)=a3c a i j - a3c a i k/a3c a k k*a3c a k j:=by
 have l1:=h i hi j hj;have l2:=h i hi k (by omega);have l3:=h k hk k (by omega);have l4:=h k hk j hj;have lf:=c4y _ _ l2 l3 hp;have lm:=b8r _ _ lf l4;have lo:=b0i _ lm;refine⟨c4x _ _ l1 lo,?_⟩;unfold elE a3c;rw[c1y l1 lo,d4l lm,c8l lf l4,d4k l2 l3 hp];grind
theorem elF_vals {full:Bool} {a:Nat->Nat->Q3} {n k:Nat} (h:lowM a n) (hk:k<n) (ht:tri full (a3c a) n k) (hp:(a k k).2.1≠0):lowM (elF full a k) n/\∀i,i<n->∀j,j<=n->a3c (elF full a k) i j=comb (a3c a) k (fun i=>if(k<i\/full=true/\i≠k)then a3c a i k/a3c a k k else 0) i j:=by
 have key:∀i,i<n->∀j,j<=n->low (elF full a k i j)/\qv (elF full a k i j)=comb (a3c a) k (fun i=>if(k<i\/full=true/\i≠k)then a3c a i k/a3c a k k else 0) i j:=fun i hi j hj=>by
  unfold elF comb;dsimp only
  by_cases h1:k<i\/full=true/\i≠k
  ·rw[if_pos h1]
   by_cases h2:(a i k).2.1≠0/\k<=j
   ·rw[if_pos ⟨h1,h2⟩];exact elE_low h hk hi hj hp
   ·rw[if_neg (fun q=>h2 q.2)];refine⟨h i hi j hj,?_⟩
    by_cases h3:(a i k).2.1=0
    ·have:a3c a i k=0:=(c3d (h i hi k (by omega))).2 h3;rw[this];show a3c a i j=_;grind
    ·have hjk:j<k:=by
      apply Classical.byContradiction;intro q;exact h2 ⟨h3,by omega⟩
     have:a3c a k j=0:=(ht j hjk).2 k hk (Or.inl hjk);rw[this];show a3c a i j=_;grind
  ·rw[if_neg h1,if_neg (fun q=>h1 q.1)];refine⟨h i hi j hj,?_⟩;show a3c a i j=_;grind
 exact⟨fun i hi j hj=>(key i hi j hj).1,fun i hi j hj=>(key i hi j hj).2⟩
theorem ker_congr {a b:Nat->Nat->Rat} {n:Nat} (h:∀i,i<n->∀j,j<=n->a i j=b i j) (x:Nat->Rat):ker a n x↔ker b n x:=by
 have e:∀i,i<n->sm (n+1) (fun j=>a i j*x j)=sm (n+1) (fun j=>b i j*x j):=fun i hi=>by
  apply a1g;intro j hj;rw[h i hi j (by omega)]
 exact⟨fun q i hi=>by rw[<-e i hi];exact q i hi,fun q i hi=>by rw[e i hi];exact q i hi⟩
theorem tri_congr {full:Bool} {a b:Nat->Nat->Rat} {n k:Nat} (hk:k<=n) (h:∀i,i<n->∀j,j<=n->a i j=b i j) (ht:tri full a n k):tri full b n k:=fun c hc=>
 ⟨by rw[<-h c (by omega) c (by omega)];exact(ht c hc).1,fun i hi hd=>by rw[<-h i hi c (by omega)];exact(ht c hc).2 i hi hd⟩
theorem c6j {full:Bool} {n:Nat} {a:Nat->Nat->Q3} (h:lowM a n) (hn:e2v (a3c a) n):∀k,k<=n->lowM (elim full n a k) n/\tri full (a3c (elim full n a k)) n k/\(∀x,ker (a3c (elim full n a k)) n x↔ker (a3c a) n x)/\(∀l,l<k->l<=pvt (elim full n a l) n l/\pvt (elim full n a l) n l<n/\(elim full n a l (pvt (elim full n a l) n l) l).2.1≠0)
 |0,_=>⟨h,fun c hc=>by omega,fun x=>Iff.rfl,fun l hl=>by omega⟩
 |k+1,hk=>by
  obtain⟨i1,i2,i3,i4⟩:=c6j (full:=full) h hn k (by omega);have hnk:e2v (a3c (elim full n a k)) n:=nons_of (fun x hx=>(i3 x).1 hx) hn;obtain⟨l,l1,l2,l3⟩:=pivot_ex (by omega:k<n) i2 hnk;have hpv:=pvF_ok (fun i=>decide ((elim full n a k i k).2.1≠0)) (n - k) k;have hp:k<=pvt (elim full n a k) n k/\pvt (elim full n a k) n k<n/\(elim full n a k (pvt (elim full n a k) n k) k).2.1≠0:=by
   obtain⟨p1,p2,p3⟩:=hpv;obtain⟨p4,p5⟩:=p3 ⟨l,l1,by omega,decide_eq_true ((ne_qv (i1 l l2 k (by omega))).2 l3)⟩;exact⟨p1,by unfold pvt;omega,of_decide_eq_true p5⟩
  have i4':∀l,l<k+1->l<=pvt (elim full n a l) n l/\pvt (elim full n a l) n l<n/\(elim full n a l (pvt (elim full n a l) n l) l).2.1≠0:=fun m hm=>by
   by_cases e:m=k
   ·subst e;exact hp
   ·exact i4 m (by omega)
  rw[elim];generalize elim full n a k=b at*;generalize pvt b n k=p at*;obtain⟨p1,p2,p3⟩:=hp;have s1:lowM (swQ b k p) n:=fun i hi j hj=>i1 _ (sw_lt (by omega) p2 hi) j hj
  have s2:tri full (a3c (swQ b k p)) n k:=sw_tri i2 (by omega) p1 p2;have s3:∀x,ker (a3c (swQ b k p)) n x↔ker (a3c b) n x:=sw_ker (a:=a3c b) (k:=k) (l:=p) (by omega) p2;have s4:(swQ b k p k k).2.1≠0:=by
   unfold swQ sw;rw[if_pos rfl];exact p3
  have hk':k<n:=by omega
  obtain⟨v1,v2⟩:=elF_vals (full:=full) s1 hk' s2 s4;have hpp:a3c (swQ b k p) k k≠0:=(ne_qv (s1 k hk' k (by omega))).1 s4;refine⟨v1,tri_congr hk (fun i hi j hj=>(v2 i hi j hj).symm) (comb_tri hk' s2 hpp),fun x=> ?_,i4'⟩;rw[ker_congr v2 x,comb_ker (by
   show(if(k<k\/full=true/\k≠k)then _ else(0:Rat))=0;rw[if_neg (fun h=>by
    rcases h with h|h
    ·omega
    ·exact h.2 rfl)]) hk',s3,i3]
end Go.Cm
end
section
set_option linter.unusedVariables false
namespace Go.Cm
def rowB (a:Nat->Nat->Q3) (n i H:Nat):Prop:=∃d,d<=H/\∀j,j<=n->hd d H (a i j)
theorem rowB_mono {a:Nat->Nat->Q3} {n i H G:Nat} (h:rowB a n i H) (hg:H<=G):rowB a n i G:=by
 obtain⟨d,h1,h2⟩:=h;exact⟨d,by omega,fun j hj=>a4p (h2 j hj) hg⟩
theorem b5q {a:Nat->Nat->Q3} {n i H:Nat} (h:rowB a n i H):∀j,j<=n->low (a i j):=fun j hj=>by
 obtain⟨d,h1,h2⟩:=h;exact(h2 j hj).1
theorem hd_over {D H E G:Nat} {x y:Q3} (hx:hd D H x) (hy:hd E G y) (h0:y.2.1≠0):∃z:Int,qv y*(E:Rat)=(z:Rat)/\z≠0/\z.natAbs<=G/\hd (D*z.natAbs) (H*E) (b0p x y):=by
 obtain⟨a,b,z,c,d⟩:=hx;obtain⟨a',b',z',c',d'⟩:=hy;have hy0:qv y≠0:=(ne_qv a').1 h0;have hE:((E:Nat):Rat)≠0:=by
  have:(0:Rat)<((E:Nat):Rat):=Rat.natCast_pos.2 b';grind
 have hz:z'≠0:=fun e=>by
  rw[e]at c';have:qv y*(E:Rat)=0:=c';rcases Rat.mul_eq_zero.1 this with h|h
  ·exact hy0 h
  ·exact hE h
 refine⟨z',c',hz,d',c4y _ _ a a' h0,Nat.mul_pos b (by omega),z*(E:Int)*z'.sign,?_,?_⟩
 ·have e1:((z'.natAbs:Nat):Rat)=(z':Rat)*((z'.sign:Int):Rat):=by
   rw[<-Rat.intCast_mul,Int.mul_sign_self];exact(Rat.intCast_natCast _).symm
  rw[d4k a a' h0,Rat.natCast_mul,e1,Rat.intCast_mul,Rat.intCast_mul,<-c,<-c',Rat.intCast_natCast];have:qv x/qv y*qv y=qv x:=Rat.div_mul_cancel hy0;grind
 ·rw[Int.natAbs_mul,Int.natAbs_mul,Int.natAbs_sign_of_ne_zero hz,Nat.mul_one];simp only[Int.natAbs_natCast];exact Nat.mul_le_mul_right _ d
theorem el_row {a:Nat->Nat->Q3} {n k i H:Nat} (hi:rowB a n i H) (hk:rowB a n k H) (hkn:k<=n) (hp:(a k k).2.1≠0):
  (∃D,D<=H*H/\∀j,j<=n->hd D (2*(H*H)) (elE a k i j))/\(∃D,D<=H*H/\hd D (H*H) (b0p (a i k) (a k k)))/\∀j,j<=n->∃D,D<=H*H*H/\hd D (H*H*H) (c7m (b0p (a i k) (a k k)) (a k j)):=by
 obtain⟨d,d1,d2⟩:=hi;obtain⟨e,e1,e2⟩:=hk;obtain⟨z,z1,z2,z3,z4⟩:=hd_over (d2 k hkn) (e2 k hkn) hp;have hD:d*z.natAbs<=H*H:=Nat.mul_le_mul d1 z3;have hf:hd (d*z.natAbs) (H*H) (b0p (a i k) (a k k)):=a4p z4 (Nat.mul_le_mul_left _ e1);refine⟨⟨d*z.natAbs,hD,fun j hj=> ?_⟩,⟨_,hD,hf⟩,fun j hj=>⟨_,Nat.mul_le_mul hD e1,hd_mul hf (e2 j hj)⟩⟩;have l1:=(d2 j hj).1;have lk:=(d2 k hkn).1;have lp:=(e2 k hkn).1;have lj:=(e2 j hj).1;have lf:=z4.1;have lm:=b8r _ _ lf lj;obtain⟨_,b,zi,ci,di⟩:=d2 j hj;obtain⟨_,_,zk,ck,dk⟩:=d2 k hkn;obtain⟨_,be,zj,cj,dj⟩:=e2 j hj;have hy0:qv (a k k)≠0:=(ne_qv lp).1 hp;refine⟨c4x _ _ l1 (b0i _ lm),Nat.mul_pos b (by omega),(zi*z - zk*zj)*z.sign,?_,?_⟩
 ·have q1:((z.natAbs:Nat):Rat)=(z:Rat)*((z.sign:Int):Rat):=by
   rw[<-Rat.intCast_mul,Int.mul_sign_self];exact(Rat.intCast_natCast _).symm
  unfold elE;rw[c1y l1 (b0i _ lm),d4l lm,c8l lf lj,d4k lk lp hp,Rat.natCast_mul,q1,Rat.intCast_mul,Rat.intCast_sub,Rat.intCast_mul,Rat.intCast_mul,<-ci,<-ck,<-cj,<-z1];have:qv (a i k)/qv (a k k)*qv (a k k)=qv (a i k):=Rat.div_mul_cancel hy0;grind
 ·rw[Int.natAbs_mul,Int.natAbs_sign_of_ne_zero z2,Nat.mul_one];have t1:(zi*z - zk*zj).natAbs<=(zi*z).natAbs+(zk*zj).natAbs:=Int.natAbs_sub_le _ _;have t2:(zi*z).natAbs<=H*H:=by
   rw[Int.natAbs_mul];exact Nat.mul_le_mul di z3
  have t3:(zk*zj).natAbs<=H*H:=by
   rw[Int.natAbs_mul];exact Nat.mul_le_mul dk dj
  omega
def gB (c k:Nat):Nat:=10^(2^k*c - 1)
theorem gB_pos (c k:Nat):0<gB c k:=Nat.pow_pos (by decide)
theorem gB_mono {c k l:Nat} (h:k<=l):gB c k<=gB c l:=Nat.pow_le_pow_right (by decide) (Nat.sub_le_sub_right (Nat.mul_le_mul_right _ (Nat.pow_le_pow_right (by decide) h)) _)
theorem gB_step {c k:Nat} (hc:0<c):2*(gB c k*gB c k)<=gB c (k+1):=by
 unfold gB;have h1:0<2^k*c:=Nat.mul_pos (Nat.pow_pos (by decide)) hc;have e:2^(k+1)*c - 1=(2^k*c - 1)+(2^k*c - 1)+1:=by
  rw[Nat.pow_succ];have:2^k*2*c=2*(2^k*c):=by rw[Nat.mul_comm (2^k) 2,Nat.mul_assoc]
  omega
 rw[e,Nat.pow_succ,Nat.pow_add];omega
def c1l (a:Nat->Nat->Q3) (n c k:Nat):Prop:=∀i,i<n->rowB a n i (gB c k)
theorem elF_rows {full:Bool} {a:Nat->Nat->Q3} {n c k:Nat} (hc:0<c) (h:c1l a n c k) (hk:k<n) (hp:(a k k).2.1≠0) (hz:∀j,j<k->qv (a k j)=0):c1l (elF full a k) n c (k+1):=by
 intro i hi
 by_cases hc1:(k<i\/full=true/\i≠k)/\(a i k).2.1≠0
 ·obtain⟨⟨D,D1,D2⟩,_,_⟩:=el_row (h i hi) (h k hk) (by omega) hp;have hg:=gB_step (k:=k) hc;refine⟨D,by omega,fun j hj=> ?_⟩
  by_cases hkj:k<=j
  ·unfold elF;rw[if_pos ⟨hc1.1,hc1.2,hkj⟩];exact a4p (D2 j hj) hg
  ·have hh:hd D (2*(gB c k*gB c k)) (elE a k i j):=D2 j hj;have he:elF full a k i j=a i j:=by
    unfold elF;rw[if_neg (fun q=>hkj q.2.2)]
   have hv:elE a k i j=a i j:=by
    have l1:=b5q (h i hi) j hj;have l2:=b5q (h i hi) k (by omega);have l3:=b5q (h k hk) k (by omega);have l4:=b5q (h k hk) j hj;have lf:=c4y _ _ l2 l3 hp;have lm:=b8r _ _ lf l4;apply c1x (c4x _ _ l1 (b0i _ lm)) l1;rw[c1y l1 (b0i _ lm),d4l lm,c8l lf l4,hz j (by omega)];grind
   rw[he,<-hv];exact a4p hh hg
 ·refine rowB_mono ?_ (gB_mono (Nat.le_succ k));obtain⟨d,d1,d2⟩:=h i hi;refine⟨d,d1,fun j hj=> ?_⟩;unfold elF;rw[if_neg (fun q=>hc1 ⟨q.1,q.2.1⟩)];exact d2 j hj
theorem c4g {full:Bool} {n c:Nat} {a:Nat->Nat->Q3} (hc:0<c) (h0:c1l a n c 0) (hn:e2v (a3c a) n):∀k,k<=n->c1l (elim full n a k) n c k
 |0,_=>h0
 |k+1,hk=>by
  have hl:lowM a n:=fun i hi j hj=>b5q (h0 i hi) j hj
  have ih:=c4g (full:=full) hc h0 hn k (by omega);obtain⟨i1,i2,i3,_⟩:=c6j (full:=full) hl hn k (by omega);obtain⟨_,_,_,i4⟩:=c6j (full:=full) hl hn (k+1) hk;obtain⟨p1,p2,p3⟩:=i4 k (by omega);rw[elim];have hsw:c1l (swQ (elim full n a k) k (pvt (elim full n a k) n k)) n c k:=fun i hi=>by
   have hs:sw k (pvt (elim full n a k) n k) i<n:=sw_lt (by omega) p2 hi;exact ih _ hs
  have hkk:sw k (pvt (elim full n a k) n k) k=pvt (elim full n a k) n k:=by
   unfold sw;rw[if_pos rfl]
  refine elF_rows hc hsw (by omega) ?_ fun j hj=> ?_
  ·unfold swQ;rw[hkk];exact p3
  ·unfold swQ;rw[hkk];exact(i2 j hj).2 _ p2 (Or.inl (by omega))
def sbQ (a:Nat->Nat->Q3) (b:Nat->Q3) (k:Nat):Nat->Q3
 |0=>b k
 |t+1=>b4b (sbQ a b k t) (b6d (c7m (a k (k+1+t)) (b (k+1+t))))
def bkQ (a:Nat->Nat->Q3) (n:Nat):Nat->Nat->Q3
 |0=>fun i=>a i n
 |m+1=>fun i=>if i=n - 1 - m then b0p (sbQ a (bkQ a n m) (n - 1 - m) m) (a (n - 1 - m) (n - 1 - m))else bkQ a n m i
theorem bkQ_keep (a:Nat->Nat->Q3) (n i:Nat):∀(m l:Nat),n<=i+m->m<=l->l<=n->bkQ a n l i=bkQ a n m i:=by
 intro m l h1 h2
 induction l with
 |zero=>
  intro _;rw[show m=0 by omega]
 |succ l ih=>
  intro h3
  by_cases e:m=l+1
  ·rw[e]
  ·rw[bkQ];dsimp only;rw[if_neg (by omega),ih (by omega) (by omega)]
theorem c0a (a:Nat->Nat->Q3) (n i:Nat):∀m,i+m<n->bkQ a n m i=a i n
 |0,_=>rfl
 |m+1,h=>by
  rw[bkQ];dsimp only;rw[if_neg (by omega)];exact c0a a n i m (by omega)
theorem smB_eq (f:Nat->Rat) (k:Nat):∀n,k<n->smB n k f=sm (n - 1 - k) fun s=>f (k+1+s)
 |0,h=>by omega
 |n+1,h=>by
  unfold smB;rw[sm]
  by_cases e:k=n
  ·subst e;rw[if_neg (by omega),show k+1 - 1 - k=0 by omega,sm,Rat.add_zero];have:sm k (fun j=>if k<j then f j else 0)=sm k (fun _=>0):=a1g fun i hi=>if_neg (by omega)
   rw[this,b9z]
  ·have ih:=smB_eq f k n (by omega);unfold smB at ih;rw[ih,if_pos (by omega),show n+1 - 1 - k=(n - 1 - k)+1 by omega,sm,show k+1+(n - 1 - k)=n by omega]
def eB (H m:Nat):Nat:=(12*(H*H))^m
theorem sbQ_ok {a:Nat->Nat->Q3} {b:Nat->Q3} {n k H d e E:Nat} (hn:n<=12) (hd1:d<=H) (he:e<=E) (ha:∀j,j<=n->hd d H (a k j)) (hbk:b k=a k n) (hb:∀j,k<j->j<n->hd e E (b j)) (he0:0<e):
  ∀t,k+t<n->hd (d*e) ((t+1)*(H*E)) (sbQ a b k t)/\qv (sbQ a b k t)=qv (a k n) - sm t fun s=>qv (a k (k+1+s))*qv (b (k+1+s))
 |0,_=>by
  refine⟨?_,?_⟩
  ·have:=c4e (ha n (Nat.le_refl _)) he0;rw[sbQ,hbk];refine a4p this ?_;rw[Nat.zero_add,Nat.one_mul];exact Nat.mul_le_mul_left _ he
  ·rw[sbQ,hbk,sm];grind
 |t+1,h=>by
  obtain⟨i1,i2⟩:=sbQ_ok hn hd1 he ha hbk hb he0 t (by omega);have p1:=hd_mul (ha (k+1+t) (by omega)) (hb (k+1+t) (by omega) (by omega));refine⟨?_,?_⟩
  ·rw[sbQ,Nat.succ_mul];exact d7r i1 (hd_opp p1)
  ·rw[sbQ,c1y i1.1 (b0i _ p1.1),d4l p1.1,c8l (ha _ (by omega)).1 (hb _ (by omega) (by omega)).1,i2,sm];grind
theorem bkQ_ok {a:Nat->Nat->Q3} {n H:Nat} (hn:n<=12) (ha:∀i,i<n->rowB a n i H) (hp:∀k,k<n->(a k k).2.1≠0):∀m,m<=n->∃e,0<e/\e<=eB H m/\∀j,n<=j+m->j<n->hd e (eB H m) (bkQ a n m j)
 |0,_=>⟨1,Nat.one_pos,by simp [eB],fun j h1 h2=>by omega⟩
 |m+1,hm=>by
  obtain⟨e,e0,e1,e2⟩:=bkQ_ok hn ha hp m (by omega);have hk:n - 1 - m<n:=by omega
  generalize hke:n - 1 - m=k at*;obtain⟨d,d1,d2⟩:=ha k hk;have hH:0<H:=by
   have:=(d2 0 (by omega)).2.1;omega
  obtain⟨s1,s2⟩:=sbQ_ok (b:=bkQ a n m) hn d1 e1 d2 (c0a a n k m (by omega)) (fun j h1 h2=>e2 j (by omega) h2) e0 m (by omega);obtain⟨z,z1,z2,z3,z4⟩:=hd_over s1 (d2 k (by omega)) (hp k hk);have hz0:0<z.natAbs:=by omega
  have b1:d*e*z.natAbs<=eB H (m+1):=by
   unfold eB at*;rw[Nat.pow_succ];generalize (12*(H*H))^m=X at*;have:d*e*z.natAbs<=H*X*H:=Nat.mul_le_mul (Nat.mul_le_mul d1 e1) z3;have q:X*(12*(H*H))=12*(H*X*H):=by ac_rfl
   omega
  have b2:(m+1)*(H*eB H m)*d<=eB H (m+1):=by
   unfold eB at*;rw[Nat.pow_succ];generalize (12*(H*H))^m=X at*;have:(m+1)*(H*X)*d<=12*(H*X)*H:=Nat.mul_le_mul (Nat.mul_le_mul_right _ (by omega)) d1;have q:X*(12*(H*H))=12*(H*X)*H:=by ac_rfl
   omega
  refine⟨d*e*z.natAbs,Nat.mul_pos (Nat.mul_pos (d2 0 (by omega)).2.1 e0) hz0,b1,fun j h1 h2=> ?_⟩;rw[bkQ];dsimp only;rw[hke]
  by_cases hj:j=k
  ·rw[if_pos hj];exact a4p z4 b2
  ·rw[if_neg hj];have:=c4e (c4e (e2 j (by omega) h2) (k:=d) (d2 0 (by omega)).2.1) hz0;rw[Nat.mul_comm e d]at this;refine a4p this ?_;unfold eB at*;rw[Nat.pow_succ];generalize (12*(H*H))^m=X at*;have t1:X*d*z.natAbs<=X*H*H:=Nat.mul_le_mul (Nat.mul_le_mul_left _ d1) z3;rw[Nat.mul_assoc X H H]at t1;have:X*(H*H)<=X*(12*(H*H)):=Nat.mul_le_mul_left _ (by omega);omega
def b8b (a:Nat->Nat->Q3) (n:Nat):Nat->Q3:=bkQ (elim false n a n) n n
def solS (a:Nat->Nat->Q3) (n:Nat):Nat->Q3:=fun i=>b0p (elim true n a n i n) (elim true n a n i i)
def ext (n:Nat) (x:Nat->Rat):Nat->Rat:=fun j=>if j=n then -1 else x j
theorem ext_ker {a:Nat->Nat->Rat} {n:Nat} (x:Nat->Rat):ker a n (ext n x)↔∀i,i<n->sm n (fun j=>a i j*x j)=a i n:=by
 have e:∀i,sm (n+1) (fun j=>a i j*ext n x j)=sm n (fun j=>a i j*x j) - a i n:=fun i=>by
  rw[sm];have:sm n (fun j=>a i j*ext n x j)=sm n (fun j=>a i j*x j):=a1g fun j hj=>by
   unfold ext;rw[if_neg (by omega)]
  rw[this];unfold ext;rw[if_pos rfl];grind
 constructor
 ·intro h i hi;have:=h i hi;rw[e]at this;grind
 ·intro h i hi;rw[e,h i hi];grind
theorem solS_ok {a:Nat->Nat->Q3} {n:Nat} (h:lowM a n) (hn:e2v (a3c a) n):(∀i,i<n->low (solS a n i))/\ker (a3c a) n (ext n fun j=>qv (solS a n j)):=by
 obtain⟨i1,i2,i3,_⟩:=c6j (full:=true) h hn n (Nat.le_refl _);have hp:∀i,i<n->(elim true n a n i i).2.1≠0:=fun i hi=>(ne_qv (i1 i hi i (by omega))).2 (i2 i hi).1
 refine⟨fun i hi=>c4y _ _ (i1 i hi n (Nat.le_refl _)) (i1 i hi i (by omega)) (hp i hi),(i3 _).1 ?_⟩;have:=full_sol i2;have e:∀i,i<n->sm (n+1) (fun j=>a3c (elim true n a n) i j*ext n (fun j=>qv (solS a n j)) j)=sm (n+1) (fun j=>a3c (elim true n a n) i j*(if j=n then -1 else a3c (elim true n a n) j n/a3c (elim true n a n) j j)):=fun i hi=>by
  apply a1g;intro j hj;congr 1;unfold ext
  by_cases hjn:j=n
  ·rw[if_pos hjn,if_pos hjn]
  ·rw[if_neg hjn,if_neg hjn];exact d4k (i1 j (by omega) n (Nat.le_refl _)) (i1 j (by omega) j (by omega)) (hp j (by omega))
 intro i hi;rw[e i hi];exact this i hi
theorem solI_ok {a:Nat->Nat->Q3} {n c:Nat} (hn12:n<=12) (hc:0<c) (h:c1l a n c 0) (hn:e2v (a3c a) n):(∃e,e<=eB (gB c n) n/\∀i,i<n->hd e (eB (gB c n) n) (b8b a n i))/\ker (a3c a) n (ext n fun j=>qv (b8b a n j)):=by
 have hl:lowM a n:=fun i hi j hj=>b5q (h i hi) j hj
 obtain⟨i1,i2,i3,_⟩:=c6j (full:=false) hl hn n (Nat.le_refl _);have hr:=c4g (full:=false) hc h hn n (Nat.le_refl _);have hp:∀i,i<n->(elim false n a n i i).2.1≠0:=fun i hi=>(ne_qv (i1 i hi i (by omega))).2 (i2 i hi).1
 obtain⟨e,e0,e1,e2⟩:=bkQ_ok hn12 hr hp n (Nat.le_refl _);refine⟨⟨e,e1,fun i hi=>e2 i (by omega) hi⟩,(i3 _).1 (tri_sol i2 (fun k hk=> ?_) (by unfold ext;rw[if_pos rfl]))⟩;unfold b8b ext;rw[if_neg (by omega)];generalize elim false n a n=A at*;have hm:n - 1 - k<n:=by omega
 have ek:bkQ A n n k=b0p (sbQ A (bkQ A n (n - 1 - k)) k (n - 1 - k)) (A k k):=by
  rw[bkQ_keep A n k (n - 1 - k+1) n (by omega) (by omega) (Nat.le_refl _),bkQ];dsimp only;rw[show n - 1 - (n - 1 - k)=k by omega,if_pos rfl]
 obtain⟨e',f0,f1,f2⟩:=bkQ_ok hn12 hr hp (n - 1 - k) (by omega);obtain⟨d,d1,d2⟩:=hr k hk;obtain⟨s1,s2⟩:=sbQ_ok (b:=bkQ A n (n - 1 - k)) hn12 d1 f1 d2 (c0a A n k _ (by omega)) (fun j h1 h2=>f2 j (by omega) h2) f0 (n - 1 - k) (by omega);show qv (bkQ A n n k)=_;rw[ek,d4k s1.1 (d2 k (by omega)).1 (hp k hk),s2,smB_eq _ _ _ hk];have es:sm (n - 1 - k) (fun s=>qv (A k (k+1+s))*qv (bkQ A n (n - 1 - k) (k+1+s)))=sm (n - 1 - k) (fun s=>a3c A k (k+1+s)*(if k+1+s=n then -1 else qv (bkQ A n n (k+1+s)))):=by
  apply a1g;intro s hs;rw[if_neg (by omega),bkQ_keep A n (k+1+s) (n - 1 - k) n (by omega) (by omega) (Nat.le_refl _)];rfl
 rw[es];rfl
theorem sol_uniq {a:Nat->Nat->Rat} {n:Nat} (hn:e2v a n) {x y:Nat->Rat} (hx:ker a n (ext n x)) (hy:ker a n (ext n y)):∀j,j<n->x j=y j:=by
 intro j hj;have:=hn (fun j=>ext n x j - ext n y j) (fun i hi=>by
  have e:sm (n+1) (fun j=>a i j*(ext n x j - ext n y j))=sm (n+1) (fun j=>a i j*ext n x j) - sm (n+1) (fun j=>a i j*ext n y j):=by
   rw[<-d2g];apply a1g;intro j _;grind
  rw[e,hx i hi,hy i hi];grind) (by unfold ext;rw[if_pos rfl];grind) j hj
 unfold ext at this;rw[if_neg (by omega),if_neg (by omega)]at this;grind
end Go.Cm
end
section
set_option linter.unusedVariables false
namespace Go.Cm
inductive Rch (A:Nat->Nat->Bool) (n s:Nat):Nat->Prop where
 |refl:Rch A n s s
 |step {i j:Nat} :Rch A n s i->i<n->j<n->A i j=true->Rch A n s j
theorem Rch.trans {A:Nat->Nat->Bool} {n s i j:Nat} (h:Rch A n s i) (k:Rch A n i j):Rch A n s j:=by
 induction k with
 |refl=>exact h
 |step _ a b c ih=>exact .step ih a b c
theorem Rch.lt {A:Nat->Nat->Bool} {n s i:Nat} (h:Rch A n s i) (hs:s<n):i<n:=by
 cases h with
 |refl=>exact hs
 |step _ _ b _=>exact b
structure Bin (A:Nat->Nat->Bool) (n s:Nat) (sn:List Bool) (td:List Nat):Prop where
 ok:Bok n (sn,td)
 sound:∀j,sn.getD j false=true->Rch A n s j
 todo:∀t∈td,sn.getD t false=true
 done:∀i,i<n->sn.getD i false=true->i∈td\/∀j,j<n->A i j=true->sn.getD j false=true
theorem c6k {sn:List Bool} {i j:Nat} (h:i<sn.length):(sn.set i true).getD j false=(decide (j=i)||sn.getD j false):=by
 rw[List.getD_eq_getElem?_getD,List.getD_eq_getElem?_getD,List.getElem?_set]
 by_cases e:i=j
 ·subst e;simp [h]
 ·rw[if_neg e,decide_eq_false (fun q=>e q.symm),Bool.false_or]
theorem fold_in {A:Nat->Nat->Bool} {n s i:Nat} {sn:List Bool} {td:List Nat} (hi:i<n) (hs:sn.getD i false=true) (h:Bin A n s sn (i::td)):∀k,k<=n->
  Bok n ((List.range k).foldl (b0q (A i)) (sn,td))/\(∀j,((List.range k).foldl (b0q (A i)) (sn,td)).1.getD j false=true->Rch A n s j)/\(∀t∈((List.range k).foldl (b0q (A i)) (sn,td)).2,((List.range k).foldl (b0q (A i)) (sn,td)).1.getD t false=true)/\
  (∀j,sn.getD j false=true->((List.range k).foldl (b0q (A i)) (sn,td)).1.getD j false=true)/\(∀j,j<k->A i j=true->((List.range k).foldl (b0q (A i)) (sn,td)).1.getD j false=true)/\
  (∀t∈td,t∈((List.range k).foldl (b0q (A i)) (sn,td)).2)/\(∀j,((List.range k).foldl (b0q (A i)) (sn,td)).1.getD j false=true->sn.getD j false=true\/j∈((List.range k).foldl (b0q (A i)) (sn,td)).2)
 |0,_=>⟨⟨h.ok.len,fun t ht=>h.ok.lt t (List.mem_cons_of_mem _ ht)⟩,h.sound,fun t ht=>h.todo t (List.mem_cons_of_mem _ ht),fun _ q=>q,fun j hj=>by omega,fun _ q=>q,fun _ q=>Or.inl q⟩
 |k+1,hk=>by
  obtain⟨a1,a2,a3,a4,a5,a6,a7⟩:=fold_in hi hs h k (by omega);rw[c5b];generalize (List.range k).foldl (b0q (A i)) (sn,td)=p at*;have b1:=(stepB_ok (a:=A i) (j:=k) (by omega) a1).1;have hl:k<p.1.length:=by rw[a1.len];omega
  unfold b0q at b1 ⊢
  by_cases hc:A i k=true/\p.1.getD k false=false
  ·rw[if_pos hc]at b1 ⊢;refine⟨b1,fun j hj=> ?_,fun t ht=> ?_,fun j hj=> ?_,fun j hj ha=> ?_,fun t ht=>List.mem_append_left _ (a6 t ht),fun j hj=> ?_⟩
   ·dsimp only at hj;rw[c6k hl,Bool.or_eq_true,decide_eq_true_iff]at hj;rcases hj with rfl|hj
    ·exact .step (h.sound i hs) hi (by omega) hc.1
    ·exact a2 j hj
   ·dsimp only at ht ⊢;rw[c6k hl,Bool.or_eq_true,decide_eq_true_iff];rcases List.mem_append.1 ht with ht|ht
    ·exact Or.inr (a3 t ht)
    ·exact Or.inl (by simpa using ht)
   ·dsimp only;rw[c6k hl,a4 j hj,Bool.or_true]
   ·dsimp only;rw[c6k hl,Bool.or_eq_true,decide_eq_true_iff]
    by_cases e:j=k
    ·exact Or.inl e
    ·exact Or.inr (a5 j (by omega) ha)
   ·dsimp only at hj ⊢;rw[c6k hl,Bool.or_eq_true,decide_eq_true_iff]at hj;rcases hj with rfl|hj
    ·exact Or.inr (by simp)
    ·rcases a7 j hj with q|q
     ·exact Or.inl q
     ·exact Or.inr (List.mem_append_left _ q)
  ·rw[if_neg hc]at b1 ⊢;refine⟨b1,a2,a3,a4,fun j hj ha=> ?_,a6,a7⟩
   by_cases e:j=k
   ·subst e;cases hv:p.1.getD j false
    ·exact(hc ⟨ha,hv⟩).elim
    ·rfl
   ·exact a5 j (by omega) ha
theorem bfs_in {A:Nat->Nat->Bool} {n s:Nat} :∀(f:Nat) (sn:List Bool) (td:List Nat),Bin A n s sn td->td.length+sn.count false<=f->(∀j,(bfs A n f sn td).getD j false=true->Rch A n s j)/\(∀j,sn.getD j false=true->(bfs A n f sn td).getD j false=true)/\∀i,i<n->(bfs A n f sn td).getD i false=true->∀j,j<n->A i j=true->(bfs A n f sn td).getD j false=true
 |0,sn,td,h,hm=>by
  have:td=[]:=List.eq_nil_of_length_eq_zero (by omega);subst this;exact⟨h.sound,fun _ q=>q,fun i hi hs=>(h.done i hi hs).resolve_left (by simp)⟩
 |f+1,sn,[],h,hm=>⟨h.sound,fun _ q=>q,fun i hi hs=>(h.done i hi hs).resolve_left (by simp)⟩
 |f+1,sn,i::r,h,hm=>by
  have hi:i<n:=h.ok.lt i (List.mem_cons_self ..);have hs:=h.todo i (List.mem_cons_self ..);have h':Bok n (sn,r):=⟨h.ok.len,fun t ht=>h.ok.lt t (List.mem_cons_of_mem _ ht)⟩
  obtain⟨a1,a2,a3,a4,a5,a6,a7⟩:=fold_in hi hs h n (Nat.le_refl _);obtain⟨_,c2⟩:=b8t (a:=A i) h' n (Nat.le_refl _);obtain⟨q1,q2,q3⟩:=bfs_in f (b5d (A i) n (sn,r)).1 (b5d (A i) n (sn,r)).2 ⟨a1,a2,a3,fun t ht hv=>by
   by_cases e:t=i
   ·subst e;exact Or.inr a5
   ·rcases a7 t hv with q|q
    ·rcases h.done t ht q with u|u
     ·rcases List.mem_cons.1 u with u|u
      ·exact(e u).elim
      ·exact Or.inl (a6 t u)
     ·exact Or.inr fun j hj ha=>a4 j (u j hj ha)
    ·exact Or.inl q⟩ (by
   rw[List.length_cons]at hm;have:(b5d (A i) n (sn,r)).2.length+(b5d (A i) n (sn,r)).1.count false=r.length+sn.count false:=c2;omega)
  exact⟨q1,fun j hj=>q2 j (a4 j hj),q3⟩
theorem reachB_iff {A:Nat->Nat->Bool} {n s:Nat} (hs:s<n) (j:Nat):(b4z A n s).getD j false=true↔Rch A n s j:=by
 obtain⟨c1,c2⟩:=d0g hs;have hl:s<(List.replicate n false).length:=by simpa using hs
 have e:∀j,((List.replicate n false).set s true).getD j false=decide (j=s):=fun j=>by
  rw[c6k hl];have:(List.replicate n false).getD j false=false:=by
   rw[List.getD_eq_getElem?_getD,List.getElem?_replicate];split<;>rfl
  rw[this,Bool.or_false]
 obtain⟨q1,q2,q3⟩:=bfs_in (A:=A) (s:=s) n _ _ ⟨c1,fun j hj=>by
  rw[e,decide_eq_true_iff]at hj;subst hj;exact .refl,fun t ht=>by
  rw[e];simpa using ht,fun i hi hv=>by
  rw[e,decide_eq_true_iff]at hv;exact Or.inl (by simp [hv])⟩ (Nat.le_of_eq c2)
 refine⟨q1 j,fun h=> ?_⟩
 induction h with
 |refl=>exact q2 s (by rw[e];simp)
 |step _ a b c ih=>exact q3 _ a ih _ b c
theorem ex_max (f:Nat->Rat) (p:Nat->Prop):∀n:Nat,(∃i,i<n/\p i)->∃i,i<n/\p i/\∀j,j<n->p j->f j<=f i
 |0,⟨i,h,_⟩=>by omega
 |n+1,⟨i,h,hp⟩=>by
  by_cases hn:∃i,i<n/\p i
  ·obtain⟨m,m1,m2,m3⟩:=ex_max f p n hn
   by_cases hpn:p n/\f m<=f n
   ·refine⟨n,by omega,hpn.1,fun j hj pj=> ?_⟩
    by_cases e:j=n
    ·subst e;exact Rat.le_refl
    ·exact Rat.le_trans (m3 j (by omega) pj) hpn.2
   ·refine⟨m,by omega,m2,fun j hj pj=> ?_⟩
    by_cases e:j=n
    ·subst e;rcases Rat.le_total (a:=f m) (b:=f j)with q|q
     ·exact(hpn ⟨pj,q⟩).elim
     ·exact q
    ·exact m3 j (by omega) pj
  ·have e:i=n:=by
    apply Classical.byContradiction;intro e;exact hn ⟨i,by omega,hp⟩
   subst e;refine⟨i,by omega,hp,fun j hj pj=> ?_⟩
   by_cases e:j=i
   ·subst e;exact Rat.le_refl
   ·exact(hn ⟨j,by omega,pj⟩).elim
structure Stoch (p:Nat->Nat->Rat) (n:Nat):Prop where
 nn:∀i,i<n->∀j,j<n->0<=p i j
 one:∀i,i<n->sm n (p i)=1
theorem max_le {p:Nat->Nat->Rat} {A:Nat->Nat->Bool} {n:Nat} (hp:Stoch p n) (hA:∀i,i<n->∀j,j<n->(A i j=true↔p i j≠0)) {C:Nat->Prop} {y:Nat->Rat} {b:Rat} (hy:∀i,i<n->C i->y i<=sm n fun j=>p i j*y j)
  (hb:∀i,i<n->¬C i->y i<=b) (hw:∀i,i<n->C i->∃j,j<n/\¬C j/\Rch A n i j):∀i,i<n->y i<=b:=by
 intro i0 hi0;obtain⟨m,m1,_,m3⟩:=ex_max y (fun _=>True) n ⟨i0,hi0,trivial⟩;rcases Rat.le_total (a:=y m) (b:=b)with h|h
 ·exact Rat.le_trans (m3 i0 hi0 trivial) h
 by_cases hmb:y m=b
 ·rw[<-hmb];exact m3 i0 hi0 trivial
 have hgt:b<y m:=by grind
 have hCm:C m:=Classical.byContradiction fun q=>by
  have:=hb m m1 q;grind
 obtain⟨j,j1,j2,j3⟩:=hw m m1 hCm;have key:∀k,Rch A n m k->y k=y m:=fun k hk=>by
  induction hk with
  |refl=>rfl
  | @step i k _ hi hk ha ih=>
   have hC:C i:=Classical.byContradiction fun q=>by
    have:=hb i hi q;grind
   have h1:=hy i hi hC;have e:sm n (fun j=>p i j*(y m - y j))=y m - sm n fun j=>p i j*y j:=by
    have:sm n (fun j=>p i j*(y m - y j))=sm n (fun j=>y m*p i j - p i j*y j):=a1g fun j _=>by grind
    rw[this,d2g,d7p];show y m*sm n (p i) - _=_;rw[hp.one i hi];grind
   have nn:∀j,j<n->0<=p i j*(y m - y j):=fun j hj=>Rat.mul_nonneg (hp.nn i hi j hj) (by
    have:=m3 j hj trivial;grind)
   have hz:sm n (fun j=>p i j*(y m - y j))=0:=by
    have:=sm_nonneg nn;rw[e]at this ⊢;rw[ih]at h1;grind
   have:=d7q nn hz k hk;rcases Rat.mul_eq_zero.1 this with q|q
   ·exact((hA i hi k hk).1 ha q).elim
   ·grind
 have:=hb j j1 j2;rw[key j j3]at this;grind
theorem mean_zero {p:Nat->Nat->Rat} {A:Nat->Nat->Bool} {n:Nat} (hp:Stoch p n) (hA:∀i,i<n->∀j,j<n->(A i j=true↔p i j≠0)) {C:Nat->Prop} {y:Nat->Rat} (hy:∀i,i<n->C i->y i=sm n fun j=>p i j*y j)
  (hb:∀i,i<n->¬C i->y i=0) (hw:∀i,i<n->C i->∃j,j<n/\¬C j/\Rch A n i j):∀i,i<n->y i=0:=by
 intro i hi;have a:=max_le hp hA (C:=C) (y:=y) (b:=0) (fun i hi hc=>by rw[<-hy i hi hc];exact Rat.le_refl) (fun i hi hc=>by rw[hb i hi hc];exact Rat.le_refl) hw i hi;have c:=max_le hp hA (C:=C) (y:=fun i=> -y i) (b:=0) (fun i hi hc=>by
  have:sm n (fun j=>p i j* -y j)=sm n (fun j=> -(p i j*y j)):=a1g fun j _=>by grind
  rw[this,sm_neg,<-hy i hi hc];exact Rat.le_refl) (fun i hi hc=>by
  rw[hb i hi hc];decide) hw i hi
 grind
end Go.Cm
end
section
set_option linter.unusedVariables false
namespace Go.Cm
structure Cin (R:Nat->Nat->Bool) (n k:Nat) (s:List Int×List Bool):Prop where
 len:s.1.length=n
 cnt:s.2.length<=k
 num:∀j,j<n->s.1.getD j (-1)= -1\/0<=s.1.getD j (-1)/\s.1.getD j (-1)<(s.2.length:Int)
 rep:∀c,c<s.2.length->∃r,r<n/\(∀j,j<n->(s.1.getD j (-1)=(c:Int)↔R r j=true/\R j r=true))/\(s.2.getD c false=true↔∀j,j<n->R r j=true->R j r=true)
 all:∀j,j<k->0<=s.1.getD j (-1)
theorem cls_in {R:Nat->Nat->Bool} {n:Nat} (hr:∀i,i<n->R i i=true) (ht:∀i j k,i<n->j<n->k<n->R i j=true->R j k=true->R i k=true):∀k,k<=n->Cin R n k ((List.range k).foldl (e2p R n) (List.replicate n (-1),[]))
 |0,_=>by
  have e:∀j,j<n->(List.replicate n (-1:Int)).getD j (-1)= -1:=fun j hj=>by simp [List.getD_eq_getElem?_getD,hj]
  exact⟨by simp,Nat.le_refl _,fun j hj=>Or.inl (e j hj),fun c hc=>by simp at hc,fun j hj=>by omega⟩
 |k+1,hk=>by
  have ih:=cls_in hr ht k (by omega);rw[c5b];generalize (List.range k).foldl (e2p R n) (List.replicate n (-1),[])=s at ih ⊢;unfold e2p
  by_cases h0:0<=s.1.getD k (-1)
  ·rw[if_pos h0]
   exact⟨ih.len,by have:=ih.cnt;omega,ih.num,ih.rep,fun j hj=>by
    by_cases e:j=k
    ·subst e;exact h0
    ·exact ih.all j (by omega)⟩
  ·rw[if_neg h0];have hk':k<n:=by omega
   have hlen:=ih.cnt;have hm1:s.1.getD k (-1)= -1:=(ih.num k hk').resolve_right fun q=>h0 q.1
   have hg:∀j,j<n->(tab n fun j=>if(R k j&&R j k)=true then(s.2.length:Int)else s.1.getD j (-1)).getD j (-1)=if(R k j&&R j k)=true then(s.2.length:Int)else s.1.getD j (-1):=fun j hj=>a8j _ _ hj
   have hfree:∀c,c<s.2.length->∀j,j<n->R k j=true->R j k=true->s.1.getD j (-1)≠(c:Int):=fun c hc j hj h1 h2 e=>by
    obtain⟨r,r1,r2,_⟩:=ih.rep c hc;obtain⟨a,b⟩:=(r2 j hj).1 e;have:s.1.getD k (-1)=(c:Int):=(r2 k hk').2 ⟨ht r j k r1 hj hk' a h2,ht k j r hk' hj r1 h1 b⟩;omega
   refine⟨a0s _ _,by simp;omega,fun j hj=> ?_,fun c hc=> ?_,fun j hj=> ?_⟩
   ·dsimp only;rw[hg j hj];simp only[List.length_append,List.length_cons,List.length_nil];split
    ·right;omega
    ·rcases ih.num j hj with q|q
     ·exact Or.inl q
     ·right;omega
   ·simp only[List.length_append,List.length_cons,List.length_nil]at hc
    by_cases hcl:c<s.2.length
    ·obtain⟨r,r1,r2,r3⟩:=ih.rep c hcl;refine⟨r,r1,fun j hj=> ?_,?_⟩
     ·dsimp only;rw[hg j hj]
      by_cases hm:(R k j&&R j k)=true
      ·rw[if_pos hm];rw[Bool.and_eq_true]at hm;constructor
       ·intro e;omega
       ·intro e;exact(hfree c hcl j hj hm.1 hm.2 ((r2 j hj).2 e)).elim
      ·rw[if_neg hm];exact r2 j hj
     ·have:(s.2++[(List.range n).all fun j=> !R k j||R j k]).getD c false=s.2.getD c false:=by
       rw[List.getD_eq_getElem?_getD,List.getD_eq_getElem?_getD,List.getElem?_append_left hcl]
      dsimp only;rw[this];exact r3
    ·have hce:c=s.2.length:=by omega
     subst hce;refine⟨k,hk',fun j hj=> ?_,?_⟩
     ·dsimp only;rw[hg j hj]
      by_cases hm:(R k j&&R j k)=true
      ·rw[if_pos hm];rw[Bool.and_eq_true]at hm;exact⟨fun _=>hm,fun _=>rfl⟩
      ·rw[if_neg hm];constructor
       ·intro e;rcases ih.num j hj with q|q<;>omega
       ·intro e;exact(hm (by rw[Bool.and_eq_true];exact e)).elim
     ·have:(s.2++[(List.range n).all fun j=> !R k j||R j k]).getD s.2.length false=(List.range n).all fun j=> !R k j||R j k:=by
       rw[List.getD_eq_getElem?_getD,List.getElem?_append_right (Nat.le_refl _)];simp
      dsimp only;rw[this,List.all_eq_true];constructor
      ·intro h j hj h1;have:=h j (List.mem_range.2 hj);rw[h1]at this;simpa using this
      ·intro h j hj;have:=h j (List.mem_range.1 hj);cases hv:R k j
       ·rfl
       ·rw[this hv];rfl
   ·dsimp only;rw[hg j (by omega)]
    by_cases e:j=k
    ·subst e;rw[hr j hk'];simp
    ·have:=ih.all j (by omega);split<;>omega
def cut (m:Nat->Nat->Rat) (k:Nat):Nat->Nat->Rat:=fun i j=>m i j+m i k/sm k (m k)*m k j
end Go.Cm
end
section
set_option linter.unusedVariables false
namespace Go.Cm
theorem sumT {D H:Nat} (hD:0<D) {f:Nat->Q3} :∀ {k:Nat},(∀i,i<k->hd D H (f i))->hd D (k*H) (b7b (tab k f))/\qv (b7b (tab k f))=sm k fun i=>qv (f i)
 |0,_=>⟨d2i hD _,a5r⟩
 |k+1,h=>by
  obtain⟨a,b⟩:=sumT hD (k:=k) fun i hi=>h i (by omega)
  have c:=h k (by omega);rw[e2o,c4z,Nat.succ_mul];exact⟨d7r a c,by rw[c1y a.1 c.1,b];rfl⟩
def hB (c t:Nat):Nat:=10^(2^t*c - 2)
end Go.Cm
end
section
set_option linter.unusedVariables false
namespace Go.Cm
theorem qv_nonneg {r:Q3} (h:low r) (hn:r.1=false):0<=qv r:=by
 apply Classical.byContradiction;intro q;have:qv r<0:=by grind
 rw[<-qv_neg_iff h,hn]at this;cases this
theorem isOneQ_iff {r:Q3} (h:low r):c0n r=true↔qv r=1:=by
 rw[<-b2w,qv_iff h b3q];unfold c0n;rw[decide_eq_true_iff];constructor
 ·rintro ⟨a,b⟩
  have g:=h.2.2;rw[b,Nat.gcd_self]at g;obtain⟨n,p,q⟩:=r;dsimp only at a b g;subst a b g;rfl
 ·intro e;subst e;exact⟨rfl,rfl⟩
theorem d2j {M:List (List Q3)} (h:b2a M) {i:Nat} (hi:i<M.length):M.getD i []=tab M.length (mq M i):=by
 have e:M.getD i []=M[i]:=by simp [List.getD_eq_getElem?_getD,hi]
 have:=(h.2.1.2 _ (List.getElem_mem hi)).1;unfold mq;rw[e]
 conv=>lhs;rw[tab_of M[i] a0q]
 rw[this]
theorem e0e {M:List (List Q3)} (h:b2a M):Stoch (a3c (mq M)) M.length:=by
 refine⟨fun i hi j hj=> ?_,fun i hi=> ?_⟩
 ·obtain⟨a,_,b⟩:=c1k h hi hj;exact qv_nonneg a b
 ·have e:M.getD i []=M[i]:=by simp [List.getD_eq_getElem?_getD,hi]
  have hw:=(h.2.2 _ (List.getElem_mem hi)).2;rw[<-e,d2j h hi]at hw;unfold isW at hw;rw[Bool.and_eq_true]at hw;obtain⟨s1,s2⟩:=sumT (D:=b9d (tab M.length (mq M i))) (H:=10^200*b9d (tab M.length (mq M i))) (k:=M.length) (f:=mq M i) (c4f fun r hr=>by
   obtain⟨j,hj,rfl⟩:=b2x.1 hr;exact(c1k h hi hj).1) fun j hj=>by
    refine a4p (e0d (fun r hr=> ?_) _ (b2x.2 ⟨j,hj,rfl⟩)) (Nat.mul_le_mul_right _ (Nat.le_of_lt (c1k h hi hj).2.1.1));obtain⟨j,hj,rfl⟩:=b2x.1 hr;exact(c1k h hi hj).1
  have:=(isOneQ_iff s1.1).1 hw.2;rw[s2]at this;exact this
theorem ch_adj {M:List (List Q3)} (h:b2a M):∀i,i<M.length->∀j,j<M.length->(adj M i j=true↔a3c (mq M) i j≠0):=fun i hi j hj=>by
 unfold adj;rw[decide_eq_true_iff];exact ne_qv (c1k h hi hj).1
theorem d2k {M:List (List Q3)} {i:Nat} (hi:i<M.length) (j:Nat):rcB M i j=true↔Rch (adj M) M.length i j:=reachB_iff hi j
theorem RB_refl (M:List (List Q3)):∀i,i<M.length->rcB M i i=true:=fun i hi=>(d2k hi i).2 .refl
theorem RB_trans (M:List (List Q3)):∀i j k,i<M.length->j<M.length->k<M.length->rcB M i j=true->rcB M j k=true->rcB M i k=true:=fun i j k hi hj _ h1 h2=>(d2k hi k).2 (((d2k hi j).1 h1).trans ((d2k hj k).1 h2))
theorem cls_ok (M:List (List Q3)):Cin (rcB M) M.length M.length (clsM M):=cls_in (RB_refl M) (RB_trans M) M.length (Nat.le_refl _)
end Go.Cm
end
section
set_option linter.unusedVariables false
namespace Go.Cm
theorem sm_fl (c:Nat->Bool) (f:Nat->Rat):∀n,sm (fl c n).length (fun a=>f ((fl c n).getD a 0))=sm n fun i=>if c i=true then f i else 0
 |0=>rfl
 |n+1=>by
  have ih:=sm_fl c f n;rw[sm,<-ih,b8u]
  by_cases hc:c n=true
  ·rw[if_pos hc,if_pos hc,List.length_append,List.length_cons,List.length_nil,sm];congr 1
   ·apply a1g;intro a ha;rw[List.getD_eq_getElem?_getD,List.getD_eq_getElem?_getD,List.getElem?_append_left ha]
   ·rw[List.getD_eq_getElem?_getD,List.getElem?_append_right (by omega)];simp
  ·rw[if_neg hc,if_neg hc,List.append_nil,Rat.add_zero]
def c1t (M:List (List Q3)) (c:Nat->Bool):Nat->Nat->Q3:=fun a b=>mq M ((fl c M.length).getD a 0) ((fl c M.length).getD b 0)
end Go.Cm
end
section
set_option linter.unusedVariables false
namespace Go.Cm
def hA (M:List (List Q3)) (tu:Bool) (c:Nat->Bool) (g:Nat->Q3):Nat->Nat->Q3:=fun a b=>
 if b=(fl c M.length).length then g ((fl c M.length).getD a 0)
 else if a=b then b4b (b6d (if tu=true then c1t M c b a else c1t M c a b)) a6j else b6d (if tu=true then c1t M c b a else c1t M c a b)
theorem b8c (c:Nat->Bool) (n:Nat):(fl c n).length<=n:=by
 have:=List.length_filter_le c (List.range n);rw[List.length_range]at this;exact this
theorem c6l {M:List (List Q3)} (h:b2a M) {c:Nat->Bool} {a b:Nat} (ha:a<(fl c M.length).length) (hb:b<(fl c M.length).length):low (c1t M c a b)/\below 200 (c1t M c a b)/\(c1t M c a b).1=false:=c1k h (b9c ha).1 (b9c hb).1
theorem hA_row {M:List (List Q3)} (h:b2a M) {tu:Bool} {c:Nat->Bool} {g:Nat->Q3} (x:Nat->Rat) {a:Nat} (ha:a<(fl c M.length).length):sm (fl c M.length).length (fun b=>a3c (hA M tu c g) a b*x b)=x a - sm (fl c M.length).length fun b=>(if tu=true then a3c (c1t M c) b a else a3c (c1t M c) a b)*x b:=by
 have o:=d2h x a (fl c M.length).length;rw[if_pos ha]at o;rw[<-o,<-d2g];apply a1g;intro b hb;have l:low (if tu=true then c1t M c b a else c1t M c a b):=by
  split
  ·exact(c6l h hb ha).1
  ·exact(c6l h ha hb).1
 have e:qv (if tu=true then c1t M c b a else c1t M c a b)=if tu=true then a3c (c1t M c) b a else a3c (c1t M c) a b:=by
  split<;>rfl
 unfold a3c hA;rw[if_neg (by omega)]
 by_cases hab:a=b
 ·rw[if_pos hab,if_pos hab.symm,c1y (b0i _ l) b3q,d4l l,b2w,e];unfold a3c;grind
 ·rw[if_neg hab,if_neg (show ¬b=a from fun q=>hab q.symm),d4l l,e];unfold a3c;grind
def spr (c:Nat->Bool) (x:Nat->Rat) (i:Nat):Rat:=if c i=true then x (ix c i)else 0
theorem spr_sum (M:List (List Q3)) (c:Nat->Bool) (x:Nat->Rat) (f:Nat->Rat):sm (fl c M.length).length (fun b=>f ((fl c M.length).getD b 0)*x b)=sm M.length fun i=>f i*spr c x i:=by
 have:=sm_fl c (fun i=>f i*x (ix c i)) M.length;have e:sm (fl c M.length).length (fun b=>f ((fl c M.length).getD b 0)*x b)=sm (fl c M.length).length (fun b=>f ((fl c M.length).getD b 0)*x (ix c ((fl c M.length).getD b 0))):=a1g fun b hb=>by rw[ix_fl hb]
 rw[e,this];apply a1g;intro i _;unfold spr;split
 ·rfl
 ·rw[Rat.mul_zero]
theorem c6m {M:List (List Q3)} (h:b2a M) {c:Nat->Bool} {g:Nat->Q3} (hw:∀i,i<M.length->c i=true->∃j,j<M.length/\c j=false/\Rch (adj M) M.length i j):e2v (a3c (hA M false c g)) (fl c M.length).length:=fun x hx h0=>by
 have key:=mean_zero (e0e h) (ch_adj h) (C:=fun i=>c i=true) (y:=spr c x) (fun i hi hc=>by
  obtain⟨a1,a2⟩:=d6y hi hc;have:=hx _ a1;rw[sm,hA_row h x a1,h0,Rat.mul_zero,Rat.add_zero]at this;simp only[Bool.false_eq_true,if_false]at this;have e:=spr_sum M c x (fun j=>a3c (mq M) i j);have e2:sm (fl c M.length).length (fun b=>a3c (c1t M c) (ix c i) b*x b)=sm (fl c M.length).length (fun b=>a3c (mq M) i ((fl c M.length).getD b 0)*x b):=a1g fun b _=>by
   unfold a3c c1t;rw[a2]
  rw[e2,e]at this;unfold spr at this ⊢;rw[if_pos hc];grind) (fun i hi hc=>by
  unfold spr;rw[if_neg hc]) (fun i hi hc=>by
  obtain⟨j,j1,j2,j3⟩:=hw i hi hc;exact⟨j,j1,by simp [j2],j3⟩)
 intro a ha;obtain⟨a1,a2⟩:=b9c ha;have:=key _ a1;unfold spr at this;rwa [if_pos a2,ix_fl ha]at this
theorem gB_eq {c x:Nat} (h:2^0*c - 1=x):gB c 0=10^x:=by
 unfold gB;rw[h]
theorem hA_rows {M:List (List Q3)} (h:b2a M) {tu:Bool} {c:Nat->Bool} {g:Nat->Q3} (hg:∀i,i<M.length->c i=true->hd (b9d (M.getD i [])) (10^210*b9d (M.getD i [])) (g i)\/g i=a0q\/g i=a6j) (htu:tu=true->∀i,i<M.length->c i=true->g i=a0q\/g i=a6j):c1l (hA M tu c g) (fl c M.length).length 3000 0:=fun a ha=>by
 obtain⟨a1,a2⟩:=b9c ha;have hn:=h.2.1.1;obtain⟨x,hx⟩:∃x,x=2999:=⟨_,rfl⟩
 have e0:gB 3000 0=10^x:=gB_eq (by rw[hx]);have key:∀(L:List Q3),L.length<=12->(∀r∈L,low r/\below 200 r)->(∀b,b<(fl c M.length).length->(if tu=true then c1t M c b a else c1t M c a b)∈L)->(hd (b9d L) (10^210*b9d L) (g ((fl c M.length).getD a 0))\/g ((fl c M.length).getD a 0)=a0q\/g ((fl c M.length).getD a 0)=a6j)->rowB (hA M tu c g) (fl c M.length).length a (gB 3000 0):=fun L hL hl hm hgL=>by
  have hp:0<b9d L:=c4f fun r hr=>(hl r hr).1
  obtain⟨y,hy⟩:∃y,y=2400:=⟨_,rfl⟩
  have hD:b9d L<=10^y:=Nat.le_trans (dens_le fun r hr=>(hl r hr).2) (Nat.pow_le_pow_right (by decide) (by omega));have hb:∀k:Nat,k<=10^211->k*b9d L<=gB 3000 0:=fun k hk=>by
   have:=Nat.mul_le_mul hk hD;rw[<-Nat.pow_add]at this;rw[e0];exact Nat.le_trans this (Nat.pow_le_pow_right (by decide) (by omega))
  refine⟨b9d L,by have:=hb 1 (Nat.pow_pos (by decide));omega,fun b hbn=> ?_⟩;unfold hA
  by_cases e:b=(fl c M.length).length
  ·rw[if_pos e];rcases hgL with q|q|q
   ·exact a4p q (hb _ (Nat.pow_le_pow_right (by decide) (by decide)))
   ·rw[q];exact d2i hp _
   ·rw[q];have:=hb 1 (Nat.pow_pos (by decide));exact a4p (hd_one hp) (by omega)
  ·rw[if_neg e];have hmb:=hm b (by omega);have hh:hd (b9d L) (10^200*b9d L) (if tu=true then c1t M c b a else c1t M c a b):=a4p (e0d (fun r hr=>(hl r hr).1) _ hmb) (Nat.mul_le_mul_right _ (Nat.le_of_lt (hl _ hmb).2.1));split
   ·refine a4p (d7r (hd_opp hh) (hd_one hp)) ?_;have:=hb (10^200+1) (by
     have:10^200+1<=10^200*10^11:=by
      have:0<10^200:=Nat.pow_pos (by decide);generalize 10^200=X at*;omega
     rwa [<-Nat.pow_add]at this)
    rw[Nat.add_mul,Nat.one_mul]at this;exact this
   ·exact a4p (hd_opp hh) (hb _ (Nat.pow_le_pow_right (by decide) (by decide)))
 cases htu':tu
 ·refine(htu'▸key) (M.getD ((fl c M.length).getD a 0) []) ?_ (fun r hr=> ?_) (fun b hb=> ?_) (hg _ a1 a2)
  ·rw[d2j h a1,a0s];exact hn
  ·rw[d2j h a1]at hr;obtain⟨j,hj,rfl⟩:=b2x.1 hr;exact⟨(c1k h a1 hj).1,(c1k h a1 hj).2.1⟩
  ·rw[if_neg (by decide),d2j h a1];exact b2x.2 ⟨_,(b9c hb).1,rfl⟩
 ·refine(htu'▸key) (tab M.length fun i=>mq M i ((fl c M.length).getD a 0)) ?_ (fun r hr=> ?_) (fun b hb=> ?_) (Or.inr (htu htu' _ a1 a2))
  ·rw[a0s];exact hn
  ·obtain⟨j,hj,rfl⟩:=b2x.1 hr;exact⟨(c1k h hj a1).1,(c1k h hj a1).2.1⟩
  ·rw[if_pos rfl];exact b2x.2 ⟨_,(b9c hb).1,rfl⟩
end Go.Cm
end
section
set_option linter.unusedVariables false
namespace Go.Cm
def om (B r c:Nat) (a:Nat->Nat->Q3):List (List (Bool×(List Int×List Int))×Nat):=tab r fun i=>((tab c (a i)).map (rp B),c)
theorem a4h (B r c:Nat) (a:Nat->Nat->Q3):(om B r c a).length=r:=a0s _ _
theorem b5r {B r c:Nat} {a b:Nat->Nat->Q3} (h:∀i,i<r->∀j,j<c->a i j=b i j):om B r c a=om B r c b:=by
 unfold om;apply a0p;intro i hi;rw[a0p fun j hj=>h i hi j hj]
theorem om_at {B r c:Nat} {a:Nat->Nat->Q3} {i:Nat} (h:i<(om B r c a).length):(om B r c a)[i]=((tab c (a i)).map (rp B),c):=by
 exact b6f _ (by rw[a4h]at h;exact h)
theorem b8d {B r c:Nat} {a:Nat->Nat->Q3} {i:Nat} (h:i<r):(hd0 (om B r c a)).getD i (0,0)=(i,c):=by
 rw[hd0_at _ (by rw[a4h];exact h),om_at]
theorem c1m {B r c:Nat} {a:Nat->Nat->Q3} {i:Nat} (h:i<r):(in0 (om B r c a)).getD i []=(tab c (a i)).map (rp B):=by
 rw[in0_at _ (by rw[a4h];exact h),om_at]
theorem a4s {B c:Nat} {a:Nat->Q3} {j:Nat} (h:j<c) (d:Bool×(List Int×List Int)):((tab c a).map (rp B)).getD j d=rp B (a j):=by
 rw[List.getD_eq_getElem?_getD,List.getElem?_map,List.getElem?_eq_getElem (by rw[a0s];exact h),b6f _ h];rfl
def updM (a:Nat->Nat->Q3) (i j:Nat) (q:Q3):Nat->Nat->Q3:=fun x y=>if x=i/\y=j then q else a x y
theorem om_write {B r c:Nat} {a:Nat->Nat->Q3} {i j:Nat} (hi:i<r) (q:Q3):nrm (hd0 (om B r c a)) ((in0 (om B r c a)).set i (((tab c (a i)).map (rp B)).set j (rp B q)))=om B r c (updM a i j q):=by
 rw[nrm_write _ (by rw[a4h];exact hi),om_at];apply List.ext_getElem
 ·rw[List.length_set,a4h,a4h]
 ·intro x h1 h2;rw[List.length_set]at h1;rw[List.getElem_set,om_at h2];rw[a4h]at h2
  by_cases e:i=x
  ·subst e;rw[if_pos rfl];congr 1;rw[a8q,b6g,a8q];apply a0p;intro y hy;unfold updM
   by_cases e2:y=j
   ·rw[if_pos e2,if_pos ⟨rfl,e2⟩]
   ·rw[if_neg e2,if_neg (fun q=>e2 q.2)]
  ·rw[if_neg e,om_at h1];congr 2;apply a0p;intro y hy;unfold updM;rw[if_neg (fun q=>e q.1.symm)]
def okq (q:Q3):Prop:=low q/\below 350000000 q
theorem om_inj {B r c r' c':Nat} (hB:2<=B) {a b:Nat->Nat->Q3} (h:om B r c a=om B r' c' b):r=r'/\(∀i,i<r->c=c'/\∀j,j<c->a i j=b i j):=by
 have hr:r=r':=by
  have:=congrArg List.length h;rwa [a4h,a4h]at this
 subst hr;refine⟨rfl,fun i hi=> ?_⟩;have h1:(hd0 (om B r c a)).getD i (0,0)=(hd0 (om B r c' b)).getD i (0,0):=by rw[h]
 rw[b8d hi,b8d hi]at h1;have hc:c=c':=congrArg Prod.snd h1;subst hc;refine⟨rfl,fun j hj=> ?_⟩;have h2:((in0 (om B r c a)).getD i []).getD j (rp B a0q)=((in0 (om B r c b)).getD i []).getD j (rp B a0q):=by rw[h]
 rw[c1m hi,c1m hi,a4s hj,a4s hj]at h2;have:=congrArg (rv B) h2;rwa [a3q hB,a3q hB]at this
end Go.Cm
end
section
set_option linter.unusedVariables false
namespace Go.Cm
theorem d7s {D H:Nat} {q:Q3} (h:hd D H q) {c:Nat} (hc:c<=350000000) (h1:H<10^c) (h2:D<10^c):okq q:=⟨h.1,b7a hc (hd_below h h1 h2)⟩
end Go.Cm
end
section
set_option linter.unusedVariables false
namespace Go.Cm
theorem d2l {X R:Type} {b:X->(X->Option R)->Option R} {s n:Nat} {st:Nat->X} {F:Nat->Option R} (hs:s<=n) (hstep:∀i g,s<=i->i<n->g (st (i+1))=F (i+1)->b (st i) g=F i) (hend:∀g,b (st n) g=F n) {k:Nat} (hk:n - s<k):loopP b k (st s)=F s:=
 a0f (b:=b) (n:=n - s) (st:=fun i=>st (s+i)) (F:=fun i=>F (s+i)) (fun i g hi hg=>hstep (s+i) g (by omega) (by omega) hg) (fun g=>by
  have:=hend g;rwa [show n=s+(n - s) by omega]at this) hk
theorem joinH_hd0 {α:Type} (m l:List (List α×Nat)):b2t (in0 m).length (hd0 m) (hd0 l)=hd0 (m++l):=by
 unfold b2t hd0;rw[c5j,List.mapIdx_append];congr 1;apply List.ext_getElem
 ·simp
 ·intro i h1 h2;simp
theorem in0_snoc {α:Type} (m:List (List α×Nat)) (v:List α) (c:Nat):in0 m++[v]=in0 (m++[(v,c)]):=by
 unfold in0;simp
theorem om_snoc (B a c:Nat) (f:Nat->Nat->Q3):om B a c f++[((tab c (f a)).map (rp B),c)]=om B (a+1) c f:=by
 unfold om;rw[e2o]
theorem om_app {B a c:Nat} {f:Nat->Nat->Q3} :(dup ((b2t (in0 (om B a c f)).length (hd0 (om B a c f)) (hd0 [((tab c (f a)).map (rp B),c)])).map fun y=>y.1)=false)/\nrm (b2t (in0 (om B a c f)).length (hd0 (om B a c f)) (hd0 [((tab c (f a)).map (rp B),c)])) (in0 (om B a c f)++[(tab c (f a)).map (rp B)])=om B (a+1) c f:=by
 rw[joinH_hd0,om_snoc];refine⟨a1d _,?_⟩;rw[in0_snoc _ _ c,om_snoc,a1t]
theorem a7y (B a:Nat) (f:Nat->Q3):(tab a f).map (rp B)++[rp B (f a)]=(tab (a+1) f).map (rp B):=by
 rw[e2o,List.map_append];rfl
theorem len_one {α:Type} {xs:List α} (h:xs.length=1):∃x,xs=[x]:=List.length_eq_one_iff.1 h
theorem d2m {B:Nat} {M:List (List Q3)} (h:isM M) {i j:Nat} (hi:i<M.length) (hj:j<M.length):((mp B M).getD i []).getD j (false,(([]:List Int),([]:List Int)))=rp B (mq M i j):=by
 rw[mp_at hi,getD_rp B (by rw[(c3e h hi).1];exact hj)];rfl
theorem d2n {B:Nat} {M:List (List Q3)} (h:isM M) {i:Nat} (hi:i<M.length):((mp B M).getD i []).length=M.length:=by
 rw[mp_at hi,List.length_map,(c3e h hi).1]
def puts (n:Nat) (c:Nat->Bool) (v:Nat->Q3) (d:Nat->Q3) (a:Nat):List Q3:=tab n fun j=>if c j=true/\ix c j<a then v (ix c j)else d j
theorem puts_step {n:Nat} {c:Nat->Bool} {v:Nat->Q3} {d:Nat->Q3} {a:Nat} (h:a<(fl c n).length):(puts n c v d a).set ((fl c n).getD a 0) (v a)=puts n c v d (a+1):=by
 unfold puts;rw[b6g];apply a0p;intro j hj;obtain⟨f1,f2⟩:=b9c h;have f3:=ix_fl h
 by_cases e:j=(fl c n).getD a 0
 ·subst e;rw[if_pos rfl,if_pos ⟨f2,by omega⟩,f3]
 ·rw[if_neg e]
  by_cases hc:c j=true
  ·have hne:ix c j≠a:=fun q=>by
    have:=(d6y hj hc).2;rw[q]at this;exact e this.symm
   by_cases hlt:ix c j<a
   ·rw[if_pos ⟨hc,hlt⟩,if_pos ⟨hc,by omega⟩]
   ·rw[if_neg (fun q=>hlt q.2),if_neg (fun q=>hlt (by omega))]
  ·rw[if_neg (fun q=>hc q.1),if_neg (fun q=>hc q.1)]
theorem d2o {n:Nat} {c:Nat->Bool} {v:Nat->Q3} {d:Nat->Q3} :puts n c v d 0=tab n d:=by
 unfold puts;apply a0p;intro j hj;rw[if_neg (by omega)]
theorem e0f {n:Nat} {c:Nat->Bool} {v:Nat->Q3} {d:Nat->Q3} :puts n c v d (fl c n).length=tab n fun j=>if c j=true then v (ix c j)else d j:=by
 unfold puts;apply a0p;intro j hj
 by_cases hc:c j=true
 ·rw[if_pos ⟨hc,(d6y hj hc).1⟩,if_pos hc]
 ·rw[if_neg (fun q=>hc q.1),if_neg hc]
theorem e0g {B n:Nat} {c:Nat->Bool} {v:Nat->Q3} {d:Nat->Q3} {a:Nat} (h:a<(fl c n).length):((puts n c v d a).map (rp B)).set ((fl c n).getD a 0) (rp B (v a))=(puts n c v d (a+1)).map (rp B):=by
 rw[<-puts_step h,List.map_set]
theorem e0h {n:Nat} {c:Nat->Bool} {v:Nat->Q3} {d:Nat->Q3} {a:Nat} :(puts n c v d a).length=n:=a0s _ _
theorem c6n {α:Type} (n:Nat) (x:α):List.replicate n x=tab n fun _=>x:=by
 unfold tab;rw[List.map_const',List.length_range]
end Go.Cm
end
section
set_option linter.unusedVariables false
namespace Go.Cm
theorem om_hd0 (B r c:Nat) (a:Nat->Nat->Q3):hd0 (om B r c a)=tab r fun i=>(i,c):=by
 apply List.ext_getElem
 ·rw[a0t,a4h,a0s]
 ·intro i h1 h2;rw[a0s]at h2;have:=b8d (B:=B) (c:=c) (a:=a) h2;rw[List.getD_eq_getElem?_getD,List.getElem?_eq_getElem h1]at this;rw[b6f _ h2];exact this
theorem sw_inj {k l i j:Nat} (h:sw k l i=sw k l j):i=j:=by
 have:=congrArg (sw k l) h;rwa [sw_sw,sw_sw]at this
theorem om_swap {B r c:Nat} {a:Nat->Nat->Q3} {i k:Nat} (hi:i<r) (hk:k<r):((hd0 (om B r c a)).set i ((hd0 (om B r c a)).getD k (0,0))).set k ((hd0 (om B r c a)).getD i (0,0))=tab r fun x=>(sw i k x,c):=by
 rw[b8d hi,b8d hk,om_hd0,b6g,b6g];apply a0p;intro x hx;unfold sw
 by_cases h1:x=k
 ·rw[if_pos h1]
  by_cases h2:x=i
  ·rw[if_pos h2];congr 1;omega
  ·rw[if_neg h2,if_pos h1]
 ·rw[if_neg h1]
  by_cases h2:x=i
  ·rw[if_pos h2,if_pos h2]
  ·rw[if_neg h2,if_neg h2,if_neg h1]
theorem tab_nodup {n:Nat} {f:Nat->Nat} (h:∀i j,f i=f j->i=j):(tab n f).Nodup:=by
 unfold List.Nodup;rw[List.pairwise_iff_getElem];intro i j hi hj hij;rw[a0s]at hi hj;rw[b6f _ hi,b6f _ hj];intro e;have:=h _ _ e;omega
theorem sw_dup {r c i k:Nat} :dup ((tab r fun x=>(sw i k x,c)).map fun y=>y.1)=false:=by
 rw[a8q];exact c5a (tab_nodup fun _ _ h=>sw_inj h)
theorem sw_nrm {B r c:Nat} {a:Nat->Nat->Q3} {i k:Nat} (hi:i<r) (hk:k<r):nrm (tab r fun x=>(sw i k x,c)) (in0 (om B r c a))=om B r c (swQ a i k):=by
 unfold nrm;rw[a8q];unfold om;apply a0p;intro x hx;have:=c1m (B:=B) (c:=c) (a:=a) (sw_lt hi hk hx);unfold om at this;rw[this];rfl
structure elOk (b:Nat->Nat->Q3) (n k:Nat):Prop where
 kn:k<n
 n12:n<=12
 num:∀i,i<n->∀j,j<=n->okq (b i j)
 piv:(b k k).2.1≠0
 f:∀i,i<n->okq (b0p (b i k) (b k k))
 mul:∀i,i<n->∀j,j<=n->okq (c7m (b0p (b i k) (b k k)) (b k j))
structure elsOk (full:Bool) (a:Nat->Nat->Q3) (n:Nat):Prop where
 n12:n<=12
 num:∀k,k<=n->∀i,i<n->∀j,j<=n->okq (elim full n a k i j)
 piv:∀k,k<n->k<=pvt (elim full n a k) n k/\pvt (elim full n a k) n k<n/\(elim full n a k (pvt (elim full n a k) n k) k).2.1≠0
 el:∀k,k<n->elOk (swQ (elim full n a k) k (pvt (elim full n a k) n k)) n k
 dia:∀k,k<n->(elim full n a n k k).2.1≠0
theorem gB_le {c k p:Nat} (hc:c=3000) (hk:k<=12) (hp:p=12300000):gB c k<10^p:=by
 unfold gB;apply Nat.pow_lt_pow_right (by decide);have t:2^k*c<=2^12*c:=Nat.mul_le_mul_right _ (Nat.pow_le_pow_right (by decide) hk);have e:2^12=4096:=by decide
 rw[e]at t;omega
theorem e0i {full:Bool} {a:Nat->Nat->Q3} {n c:Nat} (hc:c=3000) (n12:n<=12) (h:c1l a n c 0) (hn:e2v (a3c a) n):elsOk full a n:=by
 obtain⟨p,hp⟩:∃p,p=12300000:=⟨_,rfl⟩
 have c0:0<c:=by omega
 have hl:lowM a n:=fun i hi j hj=>b5q (h i hi) j hj
 have hr:=c4g (full:=full) c0 h hn;have he:=c6j (full:=full) hl hn;have hb:∀x,x<=12->∀ {q:Q3},low q->∀D H,hd D H q->H<=gB c x*gB c x*gB c x->D<=gB c x*gB c x*gB c x->okq q:=fun x hx q lq D H hq hH hD=>by
  have g:=gB_le hc hx hp;have g2:gB c x*gB c x*gB c x<10^(p+p+p):=by
   rw[Nat.pow_add,Nat.pow_add];exact Nat.mul_lt_mul'' (Nat.mul_lt_mul'' g g) g
  exact d7s hq (show p+p+p<=350000000 by omega) (by omega) (by omega)
 have one:∀x,1<=gB c x:=fun x=>gB_pos c x
 have up1:∀x,gB c x<=gB c x*gB c x*gB c x:=fun x=>Nat.le_trans (Nat.le_mul_of_pos_left _ (one x)) (Nat.le_mul_of_pos_right _ (one x))
 have up2:∀x,gB c x*gB c x<=gB c x*gB c x*gB c x:=fun x=>Nat.le_mul_of_pos_right _ (one x)
 have num:∀k,k<=n->∀i,i<n->∀j,j<=n->okq (elim full n a k i j):=fun k hk i hi j hj=>by
  obtain⟨d,d1,d2⟩:=hr k hk i hi;exact hb k (by omega) (d2 j hj).1 d _ (d2 j hj) (up1 k) (Nat.le_trans d1 (up1 k))
 have piv:∀k,k<n->k<=pvt (elim full n a k) n k/\pvt (elim full n a k) n k<n/\(elim full n a k (pvt (elim full n a k) n k) k).2.1≠0:=fun k hk=>(he (k+1) (by omega)).2.2.2 k (by omega)
 refine⟨n12,num,piv,fun k hk=> ?_,fun k hk=> ?_⟩
 ·obtain⟨p1,p2,p3⟩:=piv k hk;have hkk:sw k (pvt (elim full n a k) n k) k=pvt (elim full n a k) n k:=by
   unfold sw;rw[if_pos rfl]
  have sl:∀i,i<n->sw k (pvt (elim full n a k) n k) i<n:=fun i hi=>sw_lt hk p2 hi
  have pv:(swQ (elim full n a k) k (pvt (elim full n a k) n k) k k).2.1≠0:=by
   unfold swQ;rw[hkk];exact p3
  have er:∀i,i<n->_:=fun i hi=>el_row (a:=swQ (elim full n a k) k (pvt (elim full n a k) n k)) (hr k (by omega) _ (sl i hi)) (hr k (by omega) _ (sl k hk)) (Nat.le_of_lt hk) pv
  refine⟨hk,n12,fun i hi j hj=>num k (by omega) _ (sl i hi) j hj,pv,fun i hi=> ?_,fun i hi j hj=> ?_⟩
  ·obtain⟨_,⟨D,D1,D2⟩,_⟩:=er i hi;exact hb k (by omega) D2.1 D _ D2 (up2 k) (Nat.le_trans D1 (up2 k))
  ·obtain⟨_,_,t⟩:=er i hi;obtain⟨D,D1,D2⟩:=t j hj;exact hb k (by omega) D2.1 D _ D2 (Nat.le_refl _) D1
 ·obtain⟨l1,l2,_⟩:=he n (Nat.le_refl _);exact(ne_qv (l1 k hk k (by omega))).2 (l2 k hk).1
theorem c6o {full:Bool} {a b:Nat->Nat->Q3} {n:Nat} (h:∀i,i<n->∀j,j<=n->a i j=b i j) (hp:∀k,k<n->pvt (elim full n a k) n k<n):∀k,k<=n->∀i,i<n->∀j,j<=n->elim full n a k i j=elim full n b k i j
 |0,_=>h
 |k+1,hk=>fun i hi j hj=>by
  have ih:=c6o h hp k (by omega);have hkn:k<n:=by omega
  have hpv:pvt (elim full n a k) n k=pvt (elim full n b k) n k:=by
   unfold pvt;have:∀f i,i+f<=n->pvF (fun i=>decide ((elim full n a k i k).2.1≠0)) f i=pvF (fun i=>decide ((elim full n b k i k).2.1≠0)) f i:=by
    intro f
    induction f with
    |zero=>intro i _;rfl
    |succ f ihf=>
     intro i hif;unfold pvF;rw[ih i (by omega) k (by omega),ihf (i+1) (by omega)]
   exact this _ _ (by omega)
  have p2:=hp k hkn;rw[elim,elim,<-hpv];generalize pvt (elim full n a k) n k=p at*;have e:∀x,x<n->∀y,y<=n->swQ (elim full n a k) k p x y=swQ (elim full n b k) k p x y:=fun x hx y hy=>ih _ (sw_lt hkn p2 hx) y hy
  unfold elF elE;rw[e i hi j hj,e i hi k (by omega),e k hkn k (by omega),e k hkn j hj]
end Go.Cm
end
section
set_option linter.unusedVariables false
namespace Go.Cm
theorem b8e {B:Nat} (hB:10^9<=B) {q:Q3} (h:okq q):c3b B 40000000 (rp B q)=true:=a3y hB h.1 h.2 (by decide)
theorem okq_200 {q:Q3} (h:low q/\below 200 q):okq q:=⟨h.1,b7a (by decide) h.2⟩
end Go.Cm
end
section
set_option linter.unusedVariables false
namespace Go.Cm
end Go.Cm
end
section
set_option linter.unusedVariables false
namespace Go.Cm
def oneK (M:List (List Q3)):Bool:=decide ((clsM M).2.length=1)
theorem oneK_iff {M:List (List Q3)} (h:b2a M):oneK M=true↔∀i,i<M.length->(clsM M).1.getD i 0=0:=by
 have ok:=cls_ok M;have h0:=h.1;have hd:∀i,i<M.length->(clsM M).1.getD i 0=(clsM M).1.getD i (-1):=fun i hi=>by
  have hl:=ok.len;rw[List.getD_eq_getElem?_getD,List.getD_eq_getElem?_getD,List.getElem?_eq_getElem (by omega)];rfl
 unfold oneK;rw[decide_eq_true_eq];constructor
 ·intro h1 i hi;rw[hd i hi];have a:=ok.all i hi;have b:=ok.num i hi;rw[h1]at b;omega
 ·intro h1;have hpos:0<(clsM M).2.length:=by
   have a:=ok.all 0 (by omega);have b:=ok.num 0 (by omega);rcases b with b|b<;>omega
  apply Classical.byContradiction;intro h2;obtain⟨r,r1,r2,_⟩:=ok.rep 1 (by omega);have:=(r2 r r1).2 ⟨RB_refl M r r1,RB_refl M r r1⟩;rw[<-hd r r1,h1 r r1]at this;exact absurd this (by decide)
theorem one_pos {M:List (List Q3)} (h:b2a M) (h1:oneK M=true):b7c 0 (clsM M).2=[0]:=by
 have ok:=cls_ok M;unfold oneK at h1;rw[decide_eq_true_eq]at h1;obtain⟨b,hb⟩:=len_one h1;obtain⟨r,r1,r2,r3⟩:=ok.rep 0 (by omega);have h2:=(oneK_iff h).1 (by unfold oneK;rw[h1];rfl);have hd:∀i,i<M.length->(clsM M).1.getD i (-1)=0:=fun i hi=>by
  have a:=ok.all i hi;have b:=ok.num i hi;rw[h1]at b;omega
 have:(clsM M).2.getD 0 false=true:=r3.2 fun j hj hr=>((r2 j hj).1 (by rw[hd j hj];rfl)).2
 rw[hb]at this ⊢;have hbt:b=true:=this;rw[hbt];rfl
end Go.Cm
end
section
set_option linter.unusedVariables false
namespace Go.Cm
end Go.Cm
end
section
set_option linter.unusedVariables false
namespace Go.Cm
structure bkOk (F:Nat->Nat->Q3) (n:Nat):Prop where
 b:∀m,m<=n->∀j,j<n->okq (bkQ F n m j)
 s:∀m,m<n->∀t,t<=m->okq (sbQ F (bkQ F n m) (n - 1 - m) t)
 mul:∀m,m<n->∀t,t<m->okq (c7m (F (n - 1 - m) (n - 1 - m+1+t)) (bkQ F n m (n - 1 - m+1+t)))
theorem eB_le {H p m:Nat} (hH:H<=10^p) (hm:m<=12):eB H m<=10^((2*p+2)*12):=by
 unfold eB;have h1:12*(H*H)<=10^(2*p+2):=by
  have:12*(H*H)<=10^2*(10^p*10^p):=Nat.mul_le_mul (by decide) (Nat.mul_le_mul hH hH);rw[<-Nat.pow_add,<-Nat.pow_add]at this;exact Nat.le_trans this (Nat.pow_le_pow_right (by decide) (by omega))
 rw[Nat.pow_mul];exact Nat.le_trans (Nat.pow_le_pow_left h1 m) (Nat.pow_le_pow_right (Nat.pow_pos (by decide)) hm)
theorem bkOk_of {a:Nat->Nat->Q3} {n c:Nat} (hc:c=3000) (n12:n<=12) (h:c1l a n c 0) (hn:e2v (a3c a) n):bkOk (elim false n a n) n:=by
 obtain⟨p,hp⟩:∃p,p=12300000:=⟨_,rfl⟩
 have c0:0<c:=by omega
 have hr:=c4g (full:=false) c0 h hn n (Nat.le_refl _);have hels:=e0i (full:=false) hc n12 h hn;have hg:=gB_le hc n12 hp;have ha:∀i,i<n->rowB (elim false n a n) n i (10^p):=fun i hi=>rowB_mono (hr i hi) (by omega)
 have hdia:=hels.dia;clear hels;generalize elim false n a n=F at*;have hnum:∀i,i<n->∀j,j<=n->okq (F i j):=fun i hi j hj=>by
  obtain⟨d,d1,d2⟩:=ha i hi;exact d7s (d2 j hj) (show p+1<=350000000 by omega) (Nat.pow_lt_pow_right (by decide) (by omega)) (Nat.lt_of_le_of_lt d1 (Nat.pow_lt_pow_right (by decide) (by omega)))
 have hb:=bkQ_ok n12 ha hdia;have up:∀x,x<=12->x*(10^p*10^((2*p+2)*12))<10^((2*p+2)*12+p+3):=fun x hx=>by
  have t:x*(10^p*10^((2*p+2)*12))<=10^2*(10^p*10^((2*p+2)*12)):=Nat.mul_le_mul_right _ (by omega);have e:10^2*(10^p*10^((2*p+2)*12))=10^(2+(p+(2*p+2)*12)):=by rw[Nat.pow_add,Nat.pow_add]
  rw[e]at t;exact Nat.lt_of_le_of_lt t (Nat.pow_lt_pow_right (by decide) (by omega))
 have hcc:(2*p+2)*12+p+3<=350000000:=by omega
 have e1:0<10^p:=Nat.pow_pos (by decide);have e2:∀m,m<=n->eB (10^p) m<=10^((2*p+2)*12):=fun m hm=>eB_le (Nat.le_refl _) (by omega)
 have lt1:10^((2*p+2)*12)<10^((2*p+2)*12+p+3):=Nat.pow_lt_pow_right (by decide) (by omega);have done:∀m,m<=n->∃e,0<e/\e<=10^((2*p+2)*12)/\∀j,n<=j+m->j<n->hd e (10^((2*p+2)*12)) (bkQ F n m j):=fun m hm=>by
  obtain⟨e,h1,h2,h3⟩:=hb m hm;exact⟨e,h1,Nat.le_trans h2 (e2 m hm),fun j h4 h5=>a4p (h3 j h4 h5) (e2 m hm)⟩
 have bq:∀m,m<=n->∀j,j<n->okq (bkQ F n m j):=fun m hm j hj=>by
  obtain⟨e,h1,h2,h3⟩:=done m hm
  by_cases hjm:n<=j+m
  ·exact d7s (h3 j hjm hj) hcc lt1 (by omega)
  ·rw[c0a F n j m (by omega)];exact hnum j hj n (Nat.le_refl _)
 refine⟨bq,fun m hm t ht=> ?_,fun m hm t ht=> ?_⟩
 ·obtain⟨e,h1,h2,h3⟩:=done m (by omega);obtain⟨d,d1,d2⟩:=ha (n - 1 - m) (by omega);obtain⟨s1,_⟩:=sbQ_ok (b:=bkQ F n m) n12 d1 h2 d2 (c0a F n _ m (by omega)) (fun j q1 q2=>h3 j (by omega) q2) h1 t (by omega);refine d7s s1 hcc (up (t+1) (by omega)) ?_;have:d*e<=10^p*10^((2*p+2)*12):=Nat.mul_le_mul d1 h2;have:=up 1 (by decide);omega
 ·obtain⟨e,h1,h2,h3⟩:=done m (by omega);obtain⟨d,d1,d2⟩:=ha (n - 1 - m) (by omega);have q:=hd_mul (d2 (n - 1 - m+1+t) (by omega)) (h3 (n - 1 - m+1+t) (by omega) (by omega));refine d7s q hcc (by have:=up 1 (by decide);omega) ?_;have:d*e<=10^p*10^((2*p+2)*12):=Nat.mul_le_mul d1 h2;have:=up 1 (by decide);omega
theorem sw_tab {n k l:Nat} {B:Nat} {r:Nat->Q3} (hk:k<n) (hl:l<n) (d:Bool×(List Int×List Int)):((((tab n r).map (rp B)).set k (((tab n r).map (rp B)).getD l d)).set l (((tab n r).map (rp B)).getD k d))=(tab n fun x=>r (sw k l x)).map (rp B):=by
 rw[a4s hl,a4s hk,a8q,b6g,b6g,a8q];apply a0p;intro x hx;unfold sw
 by_cases h1:x=l
 ·rw[if_pos h1]
  by_cases h2:x=k
  ·rw[if_pos h2];congr 2;omega
  ·rw[if_neg h2,if_pos h1]
 ·rw[if_neg h1]
  by_cases h2:x=k
  ·rw[if_pos h2,if_pos h2]
  ·rw[if_neg h2,if_neg h2,if_neg h1]
theorem c9y {B n i:Nat} {r:Nat->Q3} (q:Q3):((tab n r).map (rp B)).set i (rp B q)=(tab n fun x=>if x=i then q else r x).map (rp B):=by
 rw[a8q,b6g,a8q];apply a0p;intro x hx;split<;>rfl
structure solOk (a:Nat->Nat->Q3) (n:Nat):Prop where
 el:elsOk false a n
 bk:bkOk (elim false n a n) n
theorem e0j {a:Nat->Nat->Q3} {n c:Nat} (hc:c=3000) (n12:n<=12) (h:c1l a n c 0) (hn:e2v (a3c a) n):solOk a n:=⟨e0i hc n12 h hn,bkOk_of hc n12 h hn⟩
theorem bkQ_congr {F G:Nat->Nat->Q3} {n:Nat} (h:∀i,i<n->∀j,j<=n->F i j=G i j):∀m,m<=n->∀i,i<n->bkQ F n m i=bkQ G n m i
 |0,_,i,hi=>h i hi n (Nat.le_refl _)
 |m+1,hm,i,hi=>by
  have ih:=bkQ_congr h m (by omega);have hs:∀t,t<=m->sbQ F (bkQ F n m) (n - 1 - m) t=sbQ G (bkQ G n m) (n - 1 - m) t:=by
   intro t
   induction t with
   |zero=>intro _;exact ih _ (by omega)
   |succ t iht=>
    intro ht;rw[sbQ,sbQ,iht (by omega),h _ (by omega) _ (by omega),ih _ (by omega)]
  rw[bkQ,bkQ];dsimp only;rw[hs m (Nat.le_refl _),h _ (by omega) _ (by omega),ih i hi]
end Go.Cm
end
section
set_option linter.unusedVariables false
namespace Go.Cm
theorem fl_eq {c:Nat->Bool} {n a b:Nat} (ha:a<(fl c n).length) (hb:b<(fl c n).length):(fl c n).getD a 0=(fl c n).getD b 0↔a=b:=by
 constructor
 ·intro h;have:=congrArg (ix c) h;rwa [ix_fl ha,ix_fl hb]at this
 ·intro h;rw[h]
def leN (M:List (List Q3)) (tu:Bool) (c:Nat->Bool) (a b:Nat):Q3:=if tu=true then c1t M c b a else c1t M c a b
theorem hA_at (M:List (List Q3)) (tu:Bool) (c:Nat->Bool) (g:Nat->Q3) {a b:Nat} (hb:b<(fl c M.length).length):hA M tu c g a b=if a=b then b4b (b6d (leN M tu c a b)) a6j else b6d (leN M tu c a b):=by
 unfold hA leN;rw[if_neg (by omega)]
theorem leN_ok {M:List (List Q3)} (h:b2a M) {tu:Bool} {c:Nat->Bool} {a b:Nat} (ha:a<(fl c M.length).length) (hb:b<(fl c M.length).length):okq (leN M tu c a b)/\okq (b6d (leN M tu c a b)):=by
 have key:low (leN M tu c a b)/\below 200 (leN M tu c a b):=by
  unfold leN;split
  ·exact⟨(c6l h hb ha).1,(c6l h hb ha).2.1⟩
  ·exact⟨(c6l h ha hb).1,(c6l h ha hb).2.1⟩
 exact⟨okq_200 key,b0i _ key.1,b7a (by decide) (oppQ_below key.2)⟩
theorem e0k:okq a6j:=⟨b3q,c7q (by decide)⟩
theorem c4h:okq a0q:=⟨b0j,d4f (by decide)⟩
theorem fl_mem {c:Nat->Bool} {n i:Nat} :i∈fl c n↔i<n/\c i=true:=by
 unfold fl;rw[List.mem_filter,List.mem_range]
theorem c9z {c d:Nat->Bool} {n:Nat} (h:∀i,i<n->c i=d i):fl c n=fl d n:=by
 unfold fl;exact List.filter_congr fun i hi=>h i (List.mem_range.1 hi)
def cZ (L:List Int) (i:Nat):Bool:=decide ((i:Int)∈L)
theorem cZ_fl {c:Nat->Bool} {n i:Nat} (hi:i<n):cZ (zs (fl c n)) i=c i:=by
 unfold cZ zs;rw[Bool.eq_iff_iff,decide_eq_true_eq,List.mem_map];constructor
 ·rintro ⟨j,hj,e⟩
  have:j=i:=by omega
  subst this;exact(fl_mem.1 hj).2
 ·intro h;exact⟨i,fl_mem.2 ⟨hi,h⟩,rfl⟩
theorem c6p {c:Nat->Bool} {n:Nat} :fl (cZ (zs (fl c n))) n=fl c n:=c9z fun i hi=>cZ_fl hi
theorem e0l {M:List (List Q3)} {tu:Bool} {c d:Nat->Bool} {g:Nat->Q3} (h:fl c M.length=fl d M.length):hA M tu c g=hA M tu d g:=by
 unfold hA c1t;rw[h]
theorem fl_tab {α:Type} {c:Nat->Bool} {n:Nat} (f:Nat->α):(fl c n).map f=tab (fl c n).length fun a=>f ((fl c n).getD a 0):=by
 apply List.ext_getElem
 ·rw[List.length_map,a0s]
 ·intro i h1 h2;rw[List.length_map]at h1;rw[List.getElem_map,b6f _ h1,List.getD_eq_getElem?_getD,List.getElem?_eq_getElem h1];rfl
theorem any_succ (p:Nat->Bool) (k:Nat):(List.range (k+1)).any p=((List.range k).any p||p k):=by
 rw[List.range_succ,List.any_append];simp
def inC (M:List (List Q3)) (tg:Nat->Bool) (i:Nat):Bool:= !tg i&&(List.range M.length).any fun j=>rcB M i j&&tg j
def toQ (M:List (List Q3)) (tg:Nat->Bool) (i:Nat):Nat->Q3
 |0=>a0q
 |k+1=>if tg k=true then b4b (toQ M tg i k) (mq M i k)else toQ M tg i k
theorem b8f {M:List (List Q3)} (h:b2a M) {i:Nat} (hi:i<M.length):0<b9d (M.getD i [])/\b9d (M.getD i [])<=10^2400/\∀j,j<M.length->hd (b9d (M.getD i [])) (10^200*b9d (M.getD i [])) (mq M i j):=by
 have hn:=h.2.1.1;have hl:∀r∈M.getD i [],low r/\below 200 r:=fun r hr=>by
  rw[d2j h hi]at hr;obtain⟨j,hj,rfl⟩:=b2x.1 hr;exact⟨(c1k h hi hj).1,(c1k h hi hj).2.1⟩
 have hm:∀j,j<M.length->mq M i j∈M.getD i []:=fun j hj=>by
  rw[d2j h hi];exact b2x.2 ⟨j,hj,rfl⟩
 have hL:(M.getD i []).length<=12:=by rw[d2j h hi,a0s];exact hn
 obtain⟨y,hy⟩:∃y,y=2400:=⟨_,rfl⟩
 rw[<-hy];generalize M.getD i []=L at*;exact⟨c4f fun r hr=>(hl r hr).1,Nat.le_trans (dens_le fun r hr=>(hl r hr).2) (Nat.pow_le_pow_right (by decide) (by omega)),fun j hj=>a4p (e0d (fun r hr=>(hl r hr).1) _ (hm j hj)) (Nat.mul_le_mul_right _ (Nat.le_of_lt (hl _ (hm j hj)).2.1))⟩
theorem toQ_hd {M:List (List Q3)} (h:b2a M) {tg:Nat->Bool} {i:Nat} (hi:i<M.length):∀k,k<=M.length->hd (b9d (M.getD i [])) (k*(10^200*b9d (M.getD i []))) (toQ M tg i k)/\qv (toQ M tg i k)=sm k fun j=>if tg j=true then a3c (mq M) i j else 0
 |0,_=>⟨d2i (b8f h hi).1 _,a5r⟩
 |k+1,hk=>by
  obtain⟨a,b⟩:=toQ_hd h hi k (by omega);have c:=(b8f h hi).2.2 k (by omega);rw[toQ,Nat.succ_mul]
  by_cases ht:tg k=true
  ·rw[if_pos ht];refine⟨d7r a c,?_⟩;rw[c1y a.1 c.1,b,sm,if_pos ht];rfl
  ·rw[if_neg ht];refine⟨a4p a (Nat.le_add_right _ _),?_⟩;rw[b,sm,if_neg ht];grind
theorem small_ok {d H:Nat} {q:Q3} (h:hd d H q) (h1:d<=10^2400) (h2:H<=10^210*d):okq q:=by
 obtain⟨y,hy⟩:∃y,y=2400:=⟨_,rfl⟩
 rw[<-hy]at h1;obtain⟨z,hz⟩:∃z,z=210:=⟨_,rfl⟩
 rw[<-hz]at h2;have h3:10^z*d<=10^(z+y):=by
  rw[Nat.pow_add];exact Nat.mul_le_mul_left _ h1
 exact d7s h (show z+y+1<=350000000 by omega) (Nat.lt_of_le_of_lt (Nat.le_trans h2 h3) (Nat.pow_lt_pow_right (by decide) (by omega))) (Nat.lt_of_le_of_lt h1 (Nat.pow_lt_pow_right (by decide) (by omega)))
theorem few_le {k d:Nat} (hk:k<=12):k*(10^200*d)<=10^210*d:=by
 obtain⟨a,ha⟩:∃a,a=200:=⟨_,rfl⟩
 have e:(10:Nat)^210=10^10*10^a:=by rw[<-Nat.pow_add,ha]
 rw[e,<-ha,<-Nat.mul_assoc];exact Nat.mul_le_mul_right _ (Nat.mul_le_mul_right _ (Nat.le_trans hk (by decide)))
theorem toQ_ok {M:List (List Q3)} (h:b2a M) {tg:Nat->Bool} {i:Nat} (hi:i<M.length) {k:Nat} (hk:k<=M.length):okq (toQ M tg i k):=by
 have hn:=h.2.1.1;exact small_ok (toQ_hd h hi k hk).1 (b8f h hi).2.1 (few_le (by omega))
theorem inC_way {M:List (List Q3)} {tg:Nat->Bool} {i:Nat} (hi:i<M.length) (hc:inC M tg i=true):∃j,j<M.length/\inC M tg j=false/\Rch (adj M) M.length i j:=by
 unfold inC at hc;rw[Bool.and_eq_true,List.any_eq_true]at hc;obtain⟨_,j,hj,hr⟩:=hc;rw[List.mem_range]at hj;rw[Bool.and_eq_true]at hr;refine⟨j,hj,?_,(d2k hi j).1 hr.1⟩;unfold inC;rw[hr.2];rfl
def hiA (M:List (List Q3)) (tg:Nat->Bool):Nat->Nat->Q3:=hA M false (inC M tg) fun i=>toQ M tg i M.length
theorem hi_rows {M:List (List Q3)} (h:b2a M) (tg:Nat->Bool):c1l (hiA M tg) (fl (inC M tg) M.length).length 3000 0:=by
 have hn:=h.2.1.1;exact hA_rows h (fun i hi _=>Or.inl (a4p (toQ_hd h hi M.length (Nat.le_refl _)).1 (few_le (by omega)))) (fun q=>by cases q)
theorem hi_nons {M:List (List Q3)} (h:b2a M) (tg:Nat->Bool):e2v (a3c (hiA M tg)) (fl (inC M tg) M.length).length:=c6m h fun i hi hc=>inC_way hi hc
theorem hi_sol {M:List (List Q3)} (h:b2a M) (tg:Nat->Bool):solOk (hiA M tg) (fl (inC M tg) M.length).length:=e0j rfl (Nat.le_trans (b8c _ _) h.2.1.1) (hi_rows h tg) (hi_nons h tg)
def e2w (M:List (List Q3)) (tg:Nat->Bool):List Q3:=tab M.length fun j=>if inC M tg j=true then b8b (hiA M tg) (fl (inC M tg) M.length).length (ix (inC M tg) j)else if tg j=true then a6j else a0q
end Go.Cm
end
section
set_option linter.unusedVariables false
namespace Go.Cm
def rs1 (ts:List Int) (lo hi:Int) (i:Nat):Bool:=decide (lo<=ts.getD i 0)&&(decide (ts.getD i 0<=hi)&&(decide (i=0)||decide (ts.getD (i - 1) 0<ts.getD i 0)))
def risB (ts:List Int) (lo hi:Int):Bool:=(List.range ts.length).all (rs1 ts lo hi)
def tgF (ts:List Int) (j:Nat):Bool:=decide ((j:Int)∈ts)
def riQ (M:List (List Q3)) (c:Nat->Bool) (ow gv:Nat->Q3) (i:Nat):Nat->Q3
 |0=>ow i
 |k+1=>if c k=true then riQ M c ow gv i k else b4b (riQ M c ow gv i k) (c7m (mq M i k) (gv k))
def zo (f:Nat->Q3):Prop:=∀i,f i=a0q\/f i=a6j
theorem mul_zero {q:Q3} (h:low q):c7m q a0q=a0q:=by
 apply c1x (b8r _ _ h b0j) b0j;rw[c8l h b0j,a5r];grind
theorem mul_one {q:Q3} (h:low q):c7m q a6j=q:=by
 apply c1x (b8r _ _ h b3q) h;rw[c8l h b3q,b2w];grind
theorem riQ_hd {M:List (List Q3)} (h:b2a M) {c:Nat->Bool} {ow gv:Nat->Q3} (ho:zo ow) (hg:zo gv) {i:Nat} (hi:i<M.length):∀k,k<=M.length->hd (b9d (M.getD i [])) ((k+1)*(10^200*b9d (M.getD i []))) (riQ M c ow gv i k)/\qv (riQ M c ow gv i k)=qv (ow i)+sm k fun j=>if c j=true then 0 else a3c (mq M) i j*qv (gv j)
 |0,_=>by
  have hp:=(b8f h hi).1;have h1:b9d (M.getD i [])<=(0+1)*(10^200*b9d (M.getD i [])):=by
   rw[Nat.one_mul];exact Nat.le_mul_of_pos_left _ (Nat.pow_pos (by decide))
  refine⟨?_,?_⟩
  ·rw[riQ];rcases ho i with q|q
   ·rw[q];exact d2i hp _
   ·rw[q];exact a4p (hd_one hp) h1
  ·rw[riQ,sm];grind
 |k+1,hk=>by
  obtain⟨a,b⟩:=riQ_hd h ho hg hi k (by omega);have cc:=(b8f h hi).2.2 k (by omega);have hp:=(b8f h hi).1;rw[riQ,Nat.succ_mul]
  by_cases ht:c k=true
  ·rw[if_pos ht];refine⟨a4p a (Nat.le_add_right _ _),?_⟩;rw[b,sm,if_pos ht];grind
  ·rw[if_neg ht];rcases hg k with q|q
   ·rw[q,mul_zero cc.1];have z:hd (b9d (M.getD i [])) (10^200*b9d (M.getD i [])) a0q:=d2i hp _;refine⟨d7r a z,?_⟩;rw[c1y a.1 z.1,b,sm,if_neg ht,q,a5r];grind
   ·rw[q,mul_one cc.1];refine⟨d7r a cc,?_⟩;rw[c1y a.1 cc.1,b,sm,if_neg ht,q,b2w];show _+qv (mq M i k)=_;have:a3c (mq M) i k=qv (mq M i k):=rfl;grind
theorem riQ_ok {M:List (List Q3)} (h:b2a M) {c:Nat->Bool} {ow gv:Nat->Q3} (ho:zo ow) (hg:zo gv) {i:Nat} (hi:i<M.length) {k:Nat} (hk:k<=M.length):okq (riQ M c ow gv i k):=by
 have hn:=h.2.1.1;refine small_ok (riQ_hd h ho hg hi k hk).1 (b8f h hi).2.1 ?_;have:=few_le (k:=12) (d:=b9d (M.getD i [])) (by decide);have l:(k+1)*(10^200*b9d (M.getD i []))<=13*(10^200*b9d (M.getD i [])):=Nat.mul_le_mul_right _ (by omega);refine Nat.le_trans l ?_;obtain⟨a,ha⟩:∃a,a=200:=⟨_,rfl⟩
 have e:(10:Nat)^210=10^10*10^a:=by rw[<-Nat.pow_add,ha]
 rw[e,<-ha,<-Nat.mul_assoc];exact Nat.mul_le_mul_right _ (Nat.mul_le_mul_right _ (by decide))
def meA (M:List (List Q3)) (c:Nat->Bool) (ow gv:Nat->Q3):Nat->Nat->Q3:=hA M false c fun i=>riQ M c ow gv i M.length
theorem me_rows {M:List (List Q3)} (h:b2a M) {c:Nat->Bool} {ow gv:Nat->Q3} (ho:zo ow) (hg:zo gv):c1l (meA M c ow gv) (fl c M.length).length 3000 0:=by
 have hn:=h.2.1.1;refine hA_rows h (fun i hi _=>Or.inl (a4p (riQ_hd h ho hg hi M.length (Nat.le_refl _)).1 ?_)) (fun q=>by cases q);obtain⟨a,ha⟩:∃a,a=200:=⟨_,rfl⟩
 have e:(10:Nat)^210=10^10*10^a:=by rw[<-Nat.pow_add,ha]
 rw[e,<-ha,<-Nat.mul_assoc];exact Nat.mul_le_mul_right _ (Nat.mul_le_mul_right _ (by omega))
def b6r (M:List (List Q3)) (c:Nat->Bool):Prop:=∀i,i<M.length->c i=true->∃j,j<M.length/\c j=false/\Rch (adj M) M.length i j
theorem me_els {M:List (List Q3)} (h:b2a M) {c:Nat->Bool} {ow gv:Nat->Q3} (ho:zo ow) (hg:zo gv) (hw:b6r M c):elsOk true (meA M c ow gv) (fl c M.length).length:=e0i rfl (Nat.le_trans (b8c _ _) h.2.1.1) (me_rows h ho hg) (c6m h hw)
def meL (M:List (List Q3)) (c:Nat->Bool) (ow gv:Nat->Q3):List Q3:=tab M.length fun j=>if c j=true then solS (meA M c ow gv) (fl c M.length).length (ix c j)else gv j
end Go.Cm
end
section
set_option linter.unusedVariables false
namespace Go.Cm
theorem rp_ne:rp B10 a0q≠rp B10 a6j:=fun h=>by
 have:=congrArg (rv B10) h;rw[a3q (by decide),a3q (by decide)]at this;exact absurd this (by decide)
def zoL (l:List (Bool×(List Int×List Int))) (j:Nat):Q3:=if l.getD j (false,([],[]))=rp B10 a6j then a6j else a0q
theorem zoL_zo (l:List (Bool×(List Int×List Int))):zo (zoL l):=fun i=>by
 unfold zoL;split
 ·exact Or.inr rfl
 ·exact Or.inl rfl
theorem zoL_at {f:Nat->Q3} (h:zo f) {n j:Nat} (hj:j<n):zoL ((tab n f).map (rp B10)) j=f j:=by
 unfold zoL;rw[a4s hj];rcases h j with q|q
 ·rw[q,if_neg rp_ne]
 ·rw[q,if_pos rfl]
theorem riQ_congr {M:List (List Q3)} {c d:Nat->Bool} {ow ow' gv gv':Nat->Q3} (hc:∀i,i<M.length->c i=d i) (ho:∀i,i<M.length->ow i=ow' i) (hg:∀i,i<M.length->gv i=gv' i) {i:Nat} (hi:i<M.length):∀k,k<=M.length->riQ M c ow gv i k=riQ M d ow' gv' i k
 |0,_=>ho i hi
 |k+1,hk=>by
  rw[riQ,riQ,riQ_congr hc ho hg hi k (by omega),hc k (by omega),hg k (by omega)]
theorem d2p {M:List (List Q3)} (hn:0<M.length) {c d:Nat->Bool} {ow ow' gv gv':Nat->Q3} (hc:∀i,i<M.length->c i=d i) (ho:∀i,i<M.length->ow i=ow' i) (hg:∀i,i<M.length->gv i=gv' i):meL M c ow gv=meL M d ow' gv':=by
 have e1:fl c M.length=fl d M.length:=c9z hc;have e2:meA M c ow gv=meA M d ow' gv':=by
  unfold meA;rw[e0l e1];funext a b;unfold hA;have:(fl d M.length).getD a 0<M.length:=by
   by_cases h:a<(fl d M.length).length
   ·exact(b9c h).1
   ·rw[List.getD_eq_getElem?_getD,List.getElem?_eq_none (by omega)];exact hn
  dsimp only;rw[riQ_congr hc ho hg this M.length (Nat.le_refl _)]
 unfold meL;rw[e1,e2];apply a0p;intro j hj;have e3:ix c j=ix d j:=by
  unfold ix;rw[c9z fun i hi=>hc i (by omega)]
 rw[hc j hj,hg j hj,e3]
def tgQ (tg:Nat->Bool) (j:Nat):Q3:=if tg j=true then a6j else a0q
def c8b (_:Nat):Q3:=a0q
theorem tgQ_zo (tg:Nat->Bool):zo (tgQ tg):=fun i=>by
 unfold tgQ;split
 ·exact Or.inr rfl
 ·exact Or.inl rfl
theorem c6q:zo c8b:=fun _=>Or.inl rfl
theorem inC_out {M:List (List Q3)} {tg:Nat->Bool} :b6r M (inC M tg):=fun i hi hc=>inC_way hi hc
theorem hi_right {M:List (List Q3)} (h:b2a M) {tg:Nat->Bool} {i:Nat} (hi:i<M.length):qv (toQ M tg i M.length)=qv (riQ M (inC M tg) c8b (tgQ tg) i M.length):=by
 rw[(toQ_hd h hi M.length (Nat.le_refl _)).2,(riQ_hd h c6q (tgQ_zo tg) hi M.length (Nat.le_refl _)).2];have:qv (c8b i)=0:=a5r;rw[this,Rat.zero_add];apply a1g;intro j hj;unfold tgQ
 by_cases ht:tg j=true
 ·have hc:inC M tg j=false:=by
   unfold inC;rw[ht];rfl
  rw[if_pos ht,if_pos ht,hc,if_neg (by decide),b2w,Rat.mul_one]
 ·rw[if_neg ht,if_neg ht,a5r,Rat.mul_zero];split<;>rfl
theorem both_sol {M:List (List Q3)} (h:b2a M) {c:Nat->Bool} (hw:b6r M c) {f g:Nat->Q3} (hf:c1l (hA M false c f) (fl c M.length).length 3000 0) (hg:c1l (hA M false c g) (fl c M.length).length 3000 0) (e:∀i,i<M.length->qv (f i)=qv (g i)):∀a,a<(fl c M.length).length->solS (hA M false c g) (fl c M.length).length a=b8b (hA M false c f) (fl c M.length).length a:=by
 have n1:e2v (a3c (hA M false c f)) (fl c M.length).length:=c6m h hw;have n2:e2v (a3c (hA M false c g)) (fl c M.length).length:=c6m h hw;obtain⟨⟨d,_,a1⟩,a2⟩:=solI_ok (Nat.le_trans (b8c _ _) h.2.1.1) (by decide) hf n1;obtain⟨b1,b2⟩:=solS_ok (fun i hi j hj=>b5q (hg i hi) j hj) n2;have k:∀x,ker (a3c (hA M false c g)) (fl c M.length).length x↔ker (a3c (hA M false c f)) (fl c M.length).length x:=ker_congr fun i hi j hj=>by
  unfold a3c hA;split
  ·exact(e _ (b9c hi).1).symm
  ·rfl
 intro a ha;exact c1x (b1 a ha) (a1 a ha).1 (sol_uniq n1 ((k _).1 b2) a2 a ha)
theorem e0m {M:List (List Q3)} (h:b2a M) (tg:Nat->Bool):meL M (inC M tg) c8b (tgQ tg)=e2w M tg:=by
 unfold meL e2w;apply a0p;intro j hj
 by_cases hc:inC M tg j=true
 ·rw[if_pos hc,if_pos hc];exact both_sol h inC_out (hi_rows h tg) (me_rows h c6q (tgQ_zo tg)) (fun i hi=>hi_right h hi) _ (d6y hj hc).1
 ·rw[if_neg hc,if_neg hc];rfl
end Go.Cm
end
section
set_option linter.unusedVariables false
namespace Go.Cm
theorem way_congr {M:List (List Q3)} {c d:Nat->Bool} (e:∀i,i<M.length->c i=d i) (h:b6r M c):b6r M d:=fun i hi hd=>by
 obtain⟨j,hj,q,w⟩:=h i hi (by rw[e i hi];exact hd);exact⟨j,hj,by rw[<-e j hj];exact q,w⟩
theorem hitL_cg {M:List (List Q3)} (h:b2a M) {t t':Nat->Bool} (e:∀i,i<M.length->t i=t' i):e2w M t=e2w M t':=by
 rw[<-e0m h t,<-e0m h t'];refine d2p h.1 (fun i hi=> ?_) (fun i hi=>rfl) (fun i hi=> ?_)
 ·unfold inC;rw[e i hi];congr 1;rw[Bool.eq_iff_iff,List.any_eq_true,List.any_eq_true];constructor
  ·rintro ⟨j,hj,q⟩
   exact⟨j,hj,by rw[<-e j (List.mem_range.1 hj)];exact q⟩
  ·rintro ⟨j,hj,q⟩
   exact⟨j,hj,by rw[e j (List.mem_range.1 hj)];exact q⟩
 ·unfold tgQ;rw[e i hi]
theorem isOne_low {q:Q3} (h:low q):c0n q=decide (q=a6j):=by
 unfold c0n;rw[decide_eq_decide];constructor
 ·rintro ⟨h1,h2⟩
  have h3:=h.2.2;obtain⟨n,p,r⟩:=q;dsimp only at*;subst h1 h2;rw[Nat.gcd_self]at h3;rw[h3];rfl
 ·rintro rfl
  exact⟨rfl,rfl⟩
def tgC (M:List (List Q3)) (ts:List Int):Bool:=decide ((ts.length:Int)>0)&&risB ts 0 ((M.length:Int) - 1)
end Go.Cm
end
section
set_option linter.unusedVariables false
namespace Go.Cm
theorem d2q {M:List (List Q3)} (h:b2a M) {c:Nat->Bool} (hw:b6r M c) {g:Nat->Q3} (hr:c1l (hA M false c g) (fl c M.length).length 3000 0) {i:Nat} (hi:i<M.length) (hc:c i=true):spr c (fun a=>qv (b8b (hA M false c g) (fl c M.length).length a)) i=qv (g i)+sm M.length fun j=>a3c (mq M) i j*spr c (fun a=>qv (b8b (hA M false c g) (fl c M.length).length a)) j:=by
 have n1:e2v (a3c (hA M false c g)) (fl c M.length).length:=c6m h hw;obtain⟨_,a2⟩:=solI_ok (Nat.le_trans (b8c _ _) h.2.1.1) (by decide) hr n1;generalize (fun a=>qv (b8b (hA M false c g) (fl c M.length).length a))=x at*;obtain⟨f1,f2⟩:=d6y hi hc;have k:=(ext_ker x).1 a2 _ f1;rw[hA_row h x f1]at k;simp only[Bool.false_eq_true,if_false]at k;have e:=spr_sum M c x (fun j=>a3c (mq M) i j);have e2:sm (fl c M.length).length (fun b=>a3c (c1t M c) (ix c i) b*x b)=sm (fl c M.length).length (fun b=>a3c (mq M) i ((fl c M.length).getD b 0)*x b):=a1g fun b hb=>by
  show qv (mq M ((fl c M.length).getD (ix c i) 0) ((fl c M.length).getD b 0))*x b=_;rw[f2];rfl
 rw[e2,e]at k;have e3:a3c (hA M false c g) (ix c i) (fl c M.length).length=qv (g i):=by
  unfold a3c hA;rw[if_pos rfl,f2]
 rw[e3]at k;have e4:spr c x i=x (ix c i):=by
  unfold spr;rw[if_pos hc]
 rw[e4];grind
def hQ (M:List (List Q3)) (tg:Nat->Bool) (j:Nat):Q3:=if inC M tg j=true then b8b (hiA M tg) (fl (inC M tg) M.length).length (ix (inC M tg) j)else if tg j=true then a6j else a0q
theorem inC_not {M:List (List Q3)} {tg:Nat->Bool} {j:Nat} (h:tg j=true):inC M tg j=false:=by
 unfold inC;rw[h];rfl
theorem hQ_low {M:List (List Q3)} (h:b2a M) (tg:Nat->Bool) {j:Nat} (hj:j<M.length):okq (hQ M tg j):=by
 unfold hQ;split
 ·rename_i hc;exact(hi_sol h tg).bk.b _ (Nat.le_refl _) _ (d6y hj hc).1
 ·split
  ·exact e0k
  ·exact c4h
theorem hQ_spr {M:List (List Q3)} (tg:Nat->Bool) (j:Nat):qv (hQ M tg j)=spr (inC M tg) (fun a=>qv (b8b (hiA M tg) (fl (inC M tg) M.length).length a)) j+if tg j=true then 1 else 0:=by
 unfold hQ spr
 by_cases hc:inC M tg j=true
 ·have:¬tg j=true:=fun q=>by
   rw[inC_not q]at hc;exact absurd hc (by decide)
  rw[if_pos hc,if_pos hc,if_neg this,Rat.add_zero]
 ·rw[if_neg hc,if_neg hc,Rat.zero_add];split
  ·exact b2w
  ·exact a5r
theorem hQ_mean {M:List (List Q3)} (h:b2a M) {tg:Nat->Bool} {i:Nat} (hi:i<M.length) (hc:inC M tg i=true):qv (hQ M tg i)=sm M.length fun j=>a3c (mq M) i j*qv (hQ M tg j):=by
 have k:=d2q h (c:=inC M tg) inC_out (hi_rows h tg) hi hc;rw[(toQ_hd h hi M.length (Nat.le_refl _)).2]at k;have nt:¬tg i=true:=fun q=>by
  rw[inC_not q]at hc;exact absurd hc (by decide)
 rw[hQ_spr,if_neg nt,Rat.add_zero];refine Eq.trans k ?_;rw[<-d7o];apply a1g;intro j _;show _=a3c (mq M) i j*qv (hQ M tg j);rw[hQ_spr];unfold hiA;split<;>grind
theorem hQ_le {M:List (List Q3)} (h:b2a M) (tg:Nat->Bool):∀i,i<M.length->qv (hQ M tg i)<=1:=by
 refine max_le (e0e h) (ch_adj h) (C:=fun i=>inC M tg i=true) (fun i hi hc=>by rw[<-hQ_mean h hi hc];exact Rat.le_refl) (fun i hi hc=> ?_) (fun i hi hc=>by
  obtain⟨j,hj,q,w⟩:=inC_way hi hc;exact⟨j,hj,by rw[q];decide,w⟩)
 unfold hQ;rw[if_neg hc];split
 ·rw[b2w];exact Rat.le_refl
 ·rw[a5r];decide
theorem mean_one {M:List (List Q3)} (h:b2a M) {y:Nat->Rat} (hy:∀i,i<M.length->y i<=1) {i:Nat} (hi:i<M.length) (e:(sm M.length fun j=>a3c (mq M) i j*y j)=1) {j:Nat} (hj:j<M.length) (ha:adj M i j=true):y j=1:=by
 have hs:=e0e h;have hp:=(ch_adj h i hi j hj).1 ha;have z:sm M.length (fun j=>a3c (mq M) i j*(1 - y j))=0:=by
  have e2:sm M.length (fun j=>a3c (mq M) i j*(1 - y j))=sm M.length (fun j=>a3c (mq M) i j) - sm M.length (fun j=>a3c (mq M) i j*y j):=by
   rw[<-d2g];apply a1g;intro j _;grind
  rw[e2,e,hs.2 i hi];grind
 have k:=d7q (f:=fun j=>a3c (mq M) i j*(1 - y j)) (fun j hj=>by
  have a:=hs.1 i hi j hj;have b:=hy j hj;exact Rat.mul_nonneg a (by grind)) z j hj
 rcases Rat.mul_eq_zero.1 k with q|q
 ·exact absurd q hp
 ·grind
end Go.Cm
end
section
set_option linter.unusedVariables false
namespace Go.Cm
theorem zero_mul {q:Q3} (h:low q):c7m a0q q=a0q:=by
 apply c1x (b8r _ _ b0j h) b0j;rw[c8l b0j h,a5r];grind
end Go.Cm
end
section
set_option linter.unusedVariables false
namespace Go.Cm
theorem hitL_tab (M:List (List Q3)) (tg:Nat->Bool):e2w M tg=tab M.length (hQ M tg):=rfl
end Go.Cm
end
section
set_option linter.unusedVariables false
namespace Go.Cm
theorem both_ways {p:Nat->Nat->Rat} {n:Nat} {c:Nat->Bool} {w y a b:Nat->Rat} (h0:∀i,i<n->¬c i=true->w i=0) (hy:∀i,i<n->c i=true->y i=a i+sm n fun k=>p i k*y k) (hw:∀k,k<n->y k*(sm n fun i=>p i k*w i)=y k*(w k - b k)):sm n (fun i=>w i*a i)=sm n (fun k=>y k*b k):=by
 have e1:sm n (fun i=>w i*y i)=sm n (fun i=>w i*a i)+sm n (fun i=>w i*sm n fun k=>p i k*y k):=by
  rw[<-d7o];apply a1g;intro i hi
  by_cases hc:c i=true
  ·rw[hy i hi hc];grind
  ·rw[h0 i hi hc];grind
 have e2:sm n (fun i=>w i*sm n fun k=>p i k*y k)=sm n (fun k=>y k*sm n fun i=>p i k*w i):=by
  have f1:sm n (fun i=>w i*sm n fun k=>p i k*y k)=sm n (fun i=>sm n fun k=>w i*(p i k*y k)):=a1g fun i _=>by rw[d7p]
  have f2:sm n (fun k=>y k*sm n fun i=>p i k*w i)=sm n (fun k=>sm n fun i=>w i*(p i k*y k)):=a1g fun k _=>by
   rw[<-d7p];apply a1g;intro i _;grind
  rw[f1,f2,sm_swap]
 have e3:sm n (fun k=>y k*sm n fun i=>p i k*w i)=sm n (fun i=>w i*y i) - sm n (fun k=>y k*b k):=by
  rw[<-d2g];apply a1g;intro k hk;rw[hw k hk];grind
 rw[e2,e3]at e1;grind
def atQ (s j:Nat):Q3:=if j=s then a6j else a0q
theorem atQ_zo (s:Nat):zo (atQ s):=fun j=>by
 unfold atQ;split
 ·exact Or.inr rfl
 ·exact Or.inl rfl
theorem atQ_qv (s j:Nat):qv (atQ s j)=if j=s then 1 else 0:=by
 unfold atQ;split
 ·exact b2w
 ·exact a5r
theorem c6r {M:List (List Q3)} (h:b2a M) (tu:Bool) (c:Nat->Bool) (s:Nat):c1l (hA M tu c (atQ s)) (fl c M.length).length 3000 0:=hA_rows h (fun i _ _=>Or.inr (atQ_zo s i)) (fun _ i _ _=>atQ_zo s i)
theorem col_mean {M:List (List Q3)} (h:b2a M) {c:Nat->Bool} {g:Nat->Q3} {x:Nat->Rat} (hk:∀a,a<(fl c M.length).length->sm (fl c M.length).length (fun b=>a3c (hA M true c g) a b*x b)=a3c (hA M true c g) a (fl c M.length).length) {k:Nat} (hi:k<M.length) (hc:c k=true):(sm M.length fun i=>a3c (mq M) i k*spr c x i)=spr c x k - qv (g k):=by
 obtain⟨f1,f2⟩:=d6y hi hc;have q:=hk _ f1;rw[hA_row h x f1]at q;simp only[if_true]at q;have e:=spr_sum M c x (fun i=>a3c (mq M) i k);have e2:sm (fl c M.length).length (fun b=>a3c (c1t M c) b (ix c k)*x b)=sm (fl c M.length).length (fun b=>a3c (mq M) ((fl c M.length).getD b 0) k*x b):=a1g fun b hb=>by
  show qv (mq M ((fl c M.length).getD b 0) ((fl c M.length).getD (ix c k) 0))*x b=_;rw[f2];rfl
 rw[e2,e]at q;have e3:a3c (hA M true c g) (ix c k) (fl c M.length).length=qv (g k):=by
  unfold a3c hA;rw[if_pos rfl,f2]
 rw[e3]at q;have e4:spr c x k=x (ix c k):=by
  unfold spr;rw[if_pos hc]
 rw[e4];grind
theorem col_nons {M:List (List Q3)} (h:b2a M) {c:Nat->Bool} (hw:b6r M c) (s:Nat):e2v (a3c (hA M true c (atQ s))) (fl c M.length).length:=fun x hx h0=>by
 intro a ha;obtain⟨j1,j2⟩:=b9c ha;generalize hj:(fl c M.length).getD a 0=j at*;have hr:=c6r h false c j;have hz:∀a,a<(fl c M.length).length->sm (fl c M.length).length (fun b=>a3c (hA M true c c8b) a b*x b)=a3c (hA M true c c8b) a (fl c M.length).length:=fun a ha=>by
  have q:=hx a ha;rw[sm,h0,Rat.mul_zero,Rat.add_zero]at q;have e:a3c (hA M true c c8b) a (fl c M.length).length=0:=by
   unfold a3c hA;rw[if_pos rfl];exact a5r
  rw[e,<-q];apply a1g;intro b hb;have:a3c (hA M true c c8b) a b=a3c (hA M true c (atQ s)) a b:=by
   unfold a3c;rw[hA_at _ _ _ _ hb,hA_at _ _ _ _ hb]
  rw[this]
 have key:=both_ways (p:=a3c (mq M)) (n:=M.length) (c:=c) (w:=spr c x) (y:=spr c (fun a=>qv (b8b (hA M false c (atQ j)) (fl c M.length).length a))) (a:=fun i=>qv (atQ j i)) (b:=fun _=>0) (fun i hi hc=>by
  unfold spr;rw[if_neg hc]) (fun i hi hc=>d2q h hw hr hi hc) (fun k hk=>by
  by_cases hc:c k=true
  ·have q:=col_mean h hz hk hc;have:qv (c8b k)=0:=a5r;rw[q,this]
  ·have:spr c (fun a=>qv (b8b (hA M false c (atQ j)) (fl c M.length).length a)) k=0:=by
    unfold spr;rw[if_neg hc]
   rw[this];grind)
 have e1:sm M.length (fun i=>spr c x i*qv (atQ j i))=spr c x j:=by
  have o:=d2h (spr c x) j M.length;rw[if_pos j1]at o;rw[<-o];apply a1g;intro i _;rw[atQ_qv];split<;>grind
 have e2:(fun k=>spr c (fun a=>qv (b8b (hA M false c (atQ j)) (fl c M.length).length a)) k*0)=fun _=>(0:Rat):=by
  funext k;exact Rat.mul_zero _
 rw[e1,e2,b9z]at key;have e3:spr c x j=x a:=by
  unfold spr;rw[if_pos j2,<-hj,ix_fl ha]
 rw[<-e3,key]
theorem col_sol {M:List (List Q3)} (h:b2a M) {c:Nat->Bool} (hw:b6r M c) (s:Nat):solOk (hA M true c (atQ s)) (fl c M.length).length:=e0j rfl (Nat.le_trans (b8c _ _) h.2.1.1) (c6r h true c s) (col_nons h hw s)
end Go.Cm
end
section
set_option linter.unusedVariables false
namespace Go.Cm
def zM (M:List (List Q3)) (tg:Nat->Bool):List (List Q3):=tab M.length fun i=>if tg i=true then tab M.length (fun _=>a0q)else M.getD i []
theorem d2r (M:List (List Q3)) (tg:Nat->Bool):(zM M tg).length=M.length:=a0s _ _
theorem zm_at {M:List (List Q3)} {tg:Nat->Bool} {i j:Nat} (hi:i<M.length) (hj:j<M.length):mq (zM M tg) i j=if tg i=true then a0q else mq M i j:=by
 unfold mq zM;rw[a8j _ _ hi];split
 ·rw[a8j _ _ hj]
 ·rfl
theorem zm_adj {M:List (List Q3)} {tg:Nat->Bool} {i j:Nat} (hi:i<M.length) (hj:j<M.length):adj (zM M tg) i j=true↔tg i=false/\adj M i j=true:=by
 unfold adj;rw[decide_eq_true_iff,decide_eq_true_iff];have:=zm_at (tg:=tg) hi hj;unfold mq at this;rw[this];cases tg i
 ·simp
 ·simp [a0q]
def cV (M:List (List Q3)) (tg:Nat->Bool) (j:Nat):Bool:= !tg j&&decide (hQ M tg j=a6j)
def cW (M:List (List Q3)) (tg:Nat->Bool) (s j:Nat):Bool:=rcB (zM M tg) s j&& !tg j
theorem one_inC {M:List (List Q3)} {tg:Nat->Bool} {i:Nat} (h1:hQ M tg i=a6j) (hi:tg i=false):inC M tg i=true:=by
 cases hc:inC M tg i
 ·unfold hQ at h1;rw[hc,hi,if_neg (by decide),if_neg (by decide)]at h1;exact absurd h1 (by decide)
 ·rfl
theorem inC_to {M:List (List Q3)} {tg:Nat->Bool} {i:Nat} (hi:i<M.length) (h:inC M tg i=true):∃t,t<M.length/\tg t=true/\Rch (adj M) M.length i t:=by
 unfold inC at h;rw[Bool.and_eq_true,List.any_eq_true]at h;obtain⟨_,j,hj,hr⟩:=h;rw[Bool.and_eq_true]at hr;exact⟨j,List.mem_range.1 hj,hr.2,(d2k hi j).1 hr.1⟩
theorem cV_way {M:List (List Q3)} {tg:Nat->Bool} :b6r M (cV M tg):=fun i hi hc=>by
 unfold cV at hc;rw[Bool.and_eq_true,decide_eq_true_eq]at hc;obtain⟨t,t1,t2,t3⟩:=inC_to hi (one_inC hc.2 (by simpa using hc.1));refine⟨t,t1,?_,t3⟩;unfold cV;rw[t2];rfl
theorem z_one {M:List (List Q3)} (h:b2a M) {tg:Nat->Bool} {s:Nat} (hs:s<M.length) (h1:hQ M tg s=a6j) {j:Nat} (hr:Rch (adj (zM M tg)) M.length s j):qv (hQ M tg j)=1:=by
 induction hr with
 |refl=>rw[h1];exact b2w
 |step hi a b c ih=>
  rename_i i j;obtain⟨c1,c2⟩:=(zm_adj a b).1 c;have hc:inC M tg i=true:=one_inC (c1x (hQ_low h _ a).1 b3q (by rw[ih,b2w])) c1;rw[hQ_mean h a hc]at ih;exact mean_one h (hQ_le h _) a ih b c2
theorem zRB {M:List (List Q3)} {tg:Nat->Bool} {s:Nat} (hs:s<M.length) (j:Nat):rcB (zM M tg) s j=true↔Rch (adj (zM M tg)) M.length s j:=by
 have:=d2k (M:=zM M tg) (i:=s) (by rw[d2r];exact hs) j;rw[d2r]at this;exact this
theorem cW_cV {M:List (List Q3)} (h:b2a M) {tg:Nat->Bool} {s:Nat} (hs:s<M.length) (h1:hQ M tg s=a6j) {j:Nat} (hj:j<M.length) (hc:cW M tg s j=true):cV M tg j=true:=by
 unfold cW at hc;rw[Bool.and_eq_true]at hc;have:=z_one h hs h1 ((zRB hs j).1 hc.1);unfold cV;rw[hc.2,Bool.true_and];exact decide_eq_true (c1x (hQ_low h _ hj).1 b3q (by rw[this,b2w]))
theorem cW_way {M:List (List Q3)} (h:b2a M) {tg:Nat->Bool} {s:Nat} (hs:s<M.length) (h1:hQ M tg s=a6j):b6r M (cW M tg s):=fun i hi hc=>by
 have h2:=cW_cV h hs h1 hi hc;unfold cV at h2;rw[Bool.and_eq_true,decide_eq_true_eq]at h2;obtain⟨t,t1,t2,t3⟩:=inC_to hi (one_inC h2.2 (by simpa using h2.1));refine⟨t,t1,?_,t3⟩;unfold cW;rw[t2];simp
def visQ (M:List (List Q3)) (tg:Nat->Bool) (s j:Nat):Q3:=if cW M tg s j=true then b8b (hA M true (cW M tg s) (atQ s)) (fl (cW M tg s) M.length).length (ix (cW M tg s) j)else a0q
def d4t (M:List (List Q3)) (tg:Nat->Bool) (s j:Nat):Q3:=if cV M tg j=true then(if cV M tg s=true then(meL M (cV M tg) (atQ j) c8b).getD s a0q else a0q)else a0q
theorem mej {M:List (List Q3)} (h:b2a M) {c:Nat->Bool} (hw:b6r M c) (j:Nat) {s:Nat} (hs:s<M.length):(meL M c (atQ j) c8b).getD s a0q=if c s=true then b8b (hA M false c (atQ j)) (fl c M.length).length (ix c s)else a0q:=by
 unfold meL;rw[a8j _ _ hs]
 by_cases hc:c s=true
 ·rw[if_pos hc,if_pos hc];refine both_sol h hw (c6r h false c j) (me_rows h (atQ_zo j) c6q) (fun i hi=> ?_) _ (d6y hs hc).1;rw[(riQ_hd h (atQ_zo j) c6q hi M.length (Nat.le_refl _)).2];have e:(fun j=>if c j=true then 0 else a3c (mq M) i j*qv (c8b j))=fun _=>0:=by
   funext j;have:qv (c8b j)=0:=a5r;rw[this,Rat.mul_zero];split<;>rfl
  rw[e,b9z,Rat.add_zero]
 ·rw[if_neg hc,if_neg hc];rfl
theorem visQ_low {M:List (List Q3)} (h:b2a M) {tg:Nat->Bool} {s:Nat} (hs:s<M.length) (h1:hQ M tg s=a6j) {j:Nat} (hj:j<M.length):okq (visQ M tg s j):=by
 unfold visQ;split
 ·rename_i hc;exact(col_sol h (cW_way h hs h1) s).bk.b _ (Nat.le_refl _) _ (d6y hj hc).1
 ·exact c4h
theorem vis_same {M:List (List Q3)} (h:b2a M) {tg:Nat->Bool} {s:Nat} (hs:s<M.length) (hst:tg s=false) (h1:hQ M tg s=a6j) {j:Nat} (hj:j<M.length):visQ M tg s j=d4t M tg s j:=by
 have w1:=cW_way h hs h1;have w2:=cV_way (M:=M) (tg:=tg);have hsV:cV M tg s=true:=by
  unfold cV;rw[hst,h1];rfl
 have hsW:cW M tg s s=true:=by
  unfold cW;rw[(zRB hs s).2 .refl,hst];rfl
 by_cases hV:cV M tg j=true
 case neg=>
  have hW:¬cW M tg s j=true:=fun q=>hV (cW_cV h hs h1 hj q)
  unfold visQ d4t;rw[if_neg hW,if_neg hV]
 have hr:=c6r h true (cW M tg s) s;obtain⟨_,a2⟩:=solI_ok (Nat.le_trans (b8c _ _) h.2.1.1) (by decide) hr (col_nons h w1 s);have ev:qv (visQ M tg s j)=spr (cW M tg s) (fun a=>qv (b8b (hA M true (cW M tg s) (atQ s)) (fl (cW M tg s) M.length).length a)) j:=by
  unfold visQ spr;split
  ·rfl
  ·exact a5r
 have es:d4t M tg s j=if cV M tg s=true then b8b (hA M false (cV M tg) (atQ j)) (fl (cV M tg) M.length).length (ix (cV M tg) s)else a0q:=by
  unfold d4t;rw[if_pos hV,if_pos hsV,mej h w2 j hs]
 have ey:qv (d4t M tg s j)=spr (cV M tg) (fun a=>qv (b8b (hA M false (cV M tg) (atQ j)) (fl (cV M tg) M.length).length a)) s:=by
  rw[es];unfold spr;rw[if_pos hsV,if_pos hsV]
 have ly:low (d4t M tg s j):=by
  rw[es,if_pos hsV];exact((e0j rfl (Nat.le_trans (b8c _ _) h.2.1.1) (c6r h false (cV M tg) j) (c6m h w2)).bk.b _ (Nat.le_refl _) _ (d6y hs hsV).1).1
 refine c1x (visQ_low h hs h1 hj).1 ly ?_;rw[ev,ey];generalize hx:(fun a=>qv (b8b (hA M true (cW M tg s) (atQ s)) (fl (cW M tg s) M.length).length a))=x at*;have hk:=(ext_ker x).1 a2;have key:=both_ways (p:=a3c (mq M)) (n:=M.length) (c:=cW M tg s) (w:=spr (cW M tg s) x) (y:=spr (cV M tg) (fun a=>qv (b8b (hA M false (cV M tg) (atQ j)) (fl (cV M tg) M.length).length a))) (a:=fun i=>qv (atQ j i)) (b:=fun i=>qv (atQ s i)) (fun i hi hc=>by
  unfold spr;rw[if_neg hc]) (fun i hi hc=>d2q h w2 (c6r h false (cV M tg) j) hi (cW_cV h hs h1 hi hc)) (fun k hkk=>by
  by_cases hc:cW M tg s k=true
  ·rw[col_mean h hk hkk hc]
  ·have hw0:spr (cW M tg s) x k=0:=by
    unfold spr;rw[if_neg hc]
   have hb0:qv (atQ s k)=0:=by
    rw[atQ_qv,if_neg (fun q=>hc (by rw[q];exact hsW))]
   rw[hw0,hb0]
   by_cases hV2:cV M tg k=true
   ·have ht:tg k=false:=by
     unfold cV at hV2;rw[Bool.and_eq_true]at hV2;simpa using hV2.1
    have z:(sm M.length fun i=>a3c (mq M) i k*spr (cW M tg s) x i)=sm M.length fun _=>0:=a1g fun i hi=>by
     by_cases hci:cW M tg s i=true
     ·have:a3c (mq M) i k=0:=by
       apply Classical.byContradiction;intro q;unfold cW at hci hc;rw[Bool.and_eq_true]at hci;refine hc ?_;rw[ht,Bool.and_eq_true];exact⟨(zRB hs k).2 (.step ((zRB hs i).1 hci.1) hi hkk ((zm_adj hi hkk).2 ⟨by simpa using hci.2,(ch_adj h i hi k hkk).2 q⟩)),rfl⟩
      rw[this];exact Rat.zero_mul _
     ·have:spr (cW M tg s) x i=0:=by
       unfold spr;rw[if_neg hci]
      rw[this];exact Rat.mul_zero _
    rw[z,b9z];grind
   ·have:spr (cV M tg) (fun a=>qv (b8b (hA M false (cV M tg) (atQ j)) (fl (cV M tg) M.length).length a)) k=0:=by
     unfold spr;rw[if_neg hV2]
    rw[this];grind)
 have one:∀(f:Nat->Rat) (t:Nat),t<M.length->sm M.length (fun i=>f i*qv (atQ t i))=f t:=fun f t ht=>by
  have o:=d2h f t M.length;rw[if_pos ht]at o;rw[<-o];apply a1g;intro i _;rw[atQ_qv];split<;>grind
 rw[one _ _ hj,one _ _ hs]at key;exact key
end Go.Cm
end
section
set_option linter.unusedVariables false
namespace Go.Cm
theorem mp_set {B n i:Nat} (f:Nat->List Q3) (r:List Q3):(mp B (tab n f)).set i (r.map (rp B))=mp B (tab n fun j=>if j=i then r else f j):=by
 unfold mp;rw[a8q,b6g,a8q];apply a0p;intro j _;split<;>rfl
theorem zm_isM {M:List (List Q3)} (h:b2a M) (tg:Nat->Bool):isM (zM M tg):=by
 have hI:=h.2.1;refine⟨by rw[d2r];exact hI.1,fun r hr=> ?_⟩;rw[d2r];unfold zM at hr;obtain⟨i,hi,rfl⟩:=b2x.1 hr;split
 ·refine⟨a0s _ _,fun q hq=> ?_⟩;obtain⟨j,_,rfl⟩:=b2x.1 hq;rfl
 ·exact c3e hI hi
theorem cW_congr {M:List (List Q3)} {t t':Nat->Bool} (e:∀i,i<M.length->t i=t' i) (s:Nat):∀i,i<M.length->cW M t s i=cW M t' s i:=fun i hi=>by
 have:zM M t=zM M t':=a0p fun j hj=>by rw[e j hj]
 unfold cW;rw[this,e i hi]
theorem me_get {B:Nat} {M:List (List Q3)} {c:Nat->Bool} {o g:Nat->Q3} {s:Nat} (hs:s<M.length) (d:Bool×(List Int×List Int)):((meL M c o g).map (rp B)).getD s d=rp B ((meL M c o g).getD s a0q):=by
 unfold meL;rw[a4s hs,a8j _ _ hs]
theorem me_len (M:List (List Q3)) (c:Nat->Bool) (o g:Nat->Q3):(meL M c o g).length=M.length:=a0s _ _
theorem vsp_zero {M:List (List Q3)} {tg:Nat->Bool} {s:Nat} (h:tg s=true) (j:Nat):d4t M tg s j=a0q:=by
 have:cV M tg s=false:=by
  unfold cV;rw[h];rfl
 unfold d4t;rw[this];split<;>rfl
theorem vsp_ok {M:List (List Q3)} (h:b2a M) {tg:Nat->Bool} {s:Nat} (hs:s<M.length) (h1:hQ M tg s=a6j) {j:Nat} (hj:j<M.length):okq (d4t M tg s j):=by
 cases ht:tg s
 ·rw[<-vis_same h hs ht h1 hj];exact visQ_low h hs h1 hj
 ·rw[vsp_zero ht];exact c4h
theorem vsp_all {M:List (List Q3)} (h:b2a M) {tg:Nat->Bool} {s:Nat} (hs:s<M.length) (h1:hQ M tg s=a6j):(∀q∈tab M.length (d4t M tg s),low q/\below 350000000 q)/\(tab M.length (d4t M tg s)).length<=12:=by
 refine⟨fun q hq=> ?_,by rw[a0s];exact h.2.1.1⟩;obtain⟨j,hj,rfl⟩:=b2x.1 hq;exact vsp_ok h hs h1 hj
def vbT (u:List (List ByteArray)) (s:Int) (ts:List Int):List ByteArray×Bool:=if((chQ u).2&&(tgC (chQ u).1 ts&&(decide (0<=s/\s<=((chQ u).1.length:Int) - 1)&&decide (hQ (chQ u).1 (tgF ts) s.toNat=a6j))))=true then c9u (tab (chQ u).1.length (d4t (chQ u).1 (tgF ts) s.toNat))else([],false)
end Go.Cm
end
