import Derived.Test.YtdpljomfkoojnaaGreatDoorCmQa
import Derived.Lib.ItoaNum
import Derived.Lib.Repeat
import Derived.Lib.ParseIntB
import Derived.Lib.IndexMore
import Derived.Lib.Strings
section
set_option linter.unusedVariables false
namespace Go.Cm
def dval (B:Nat):List Int->Nat
 | []=>0
 |d::r=>d.toNat+B*dval B r
def dig (B:Nat) (xs:List Int):Bool:=xs.all fun d=>decide (0<=d/\d<(B:Int))
def nd (B:Nat) (n:Nat):List Int:=if h:n=0\/B<2 then []else((n%B:Nat):Int)::nd B (n/B)
termination_by n
decreasing_by exact Nat.div_lt_self (by omega) (by omega)
def canon (B:Nat) (xs:List Int):Bool:=dig B xs&&decide (nd B (dval B xs)=xs)
section
variable {B:Nat} (hB:2<=B)
include hB
theorem nd_zero:nd B 0=[]:=by
 have _:=hB;rw[nd,dif_pos (.inl rfl)]
theorem nd_pos {n:Nat} (h:n≠0):nd B n=((n%B:Nat):Int)::nd B (n/B):=by rw[nd,dif_neg (by omega)]
theorem dval_nd (n:Nat):dval B (nd B n)=n:=by
 induction n using Nat.strongRecOn with
 |ind n ih=>
  by_cases h:n=0
  ·subst h;rw[nd_zero hB];rfl
  ·rw[nd_pos hB h,dval,ih (n/B) (Nat.div_lt_self (by omega) (by omega)),Int.toNat_natCast];exact Nat.mod_add_div n B
theorem dig_nd (n:Nat):dig B (nd B n)=true:=by
 induction n using Nat.strongRecOn with
 |ind n ih=>
  by_cases h:n=0
  ·subst h;rw[nd_zero hB];rfl
  ·rw[nd_pos hB h];unfold dig;rw[List.all_cons,Bool.and_eq_true];refine⟨?_,ih (n/B) (Nat.div_lt_self (by omega) (by omega))⟩;have:=Nat.mod_lt n (show B>0 by omega);simp;omega
theorem canon_nd (n:Nat):canon B (nd B n)=true:=by
 unfold canon;rw[dig_nd hB,dval_nd hB];simp
omit hB in
theorem canon_dig {xs:List Int} (h:canon B xs=true):dig B xs=true:=by
 unfold canon at h;rw[Bool.and_eq_true]at h;exact h.1
omit hB in
theorem canon_eq {xs:List Int} (h:canon B xs=true):nd B (dval B xs)=xs:=by
 unfold canon at h;rw[Bool.and_eq_true]at h;exact of_decide_eq_true h.2
omit hB in
theorem dval_append (xs ys:List Int):dval B (xs++ys)=dval B xs+B^xs.length*dval B ys:=by
 induction xs with
 |nil=>simp [dval]
 |cons d r ih=>
  rw[List.cons_append,dval,ih,dval,List.length_cons,Nat.pow_succ,Nat.mul_add,Nat.mul_comm (B^r.length) B,Nat.mul_assoc];omega
omit hB in
theorem dig_append (xs ys:List Int):dig B (xs++ys)=(dig B xs&&dig B ys):=by simp [dig]
omit hB in
theorem dig_cons (d:Int) (xs:List Int):dig B (d::xs)=true↔(0<=d/\d<(B:Int))/\dig B xs=true:=by
 unfold dig;rw[List.all_cons,Bool.and_eq_true,decide_eq_true_iff]
omit hB in
theorem dig_get {xs:List Int} (h:dig B xs=true) {i:Nat} (hi:i<xs.length):0<=xs[i]/\xs[i]<(B:Int):=by
 have:=List.all_eq_true.1 h _ (List.getElem_mem hi);exact of_decide_eq_true this
omit hB in
theorem dval_lt {xs:List Int} (h:dig B xs=true):dval B xs<B^xs.length:=by
 induction xs with
 |nil=>simp [dval]
 |cons d r ih=>
  rw[dig_cons]at h;have:=ih h.2;rw[dval,List.length_cons,Nat.pow_succ];have h1:B*(dval B r+1)<=B*B^r.length:=Nat.mul_le_mul_left _ this;rw[Nat.mul_add,Nat.mul_one]at h1;have:d.toNat<B:=by omega
  rw[Nat.mul_comm (B^r.length) B];omega
theorem nd_len (n k:Nat):(nd B n).length<=k↔n<B^k:=by
 induction k generalizing n with
 |zero=>
  by_cases h:n=0
  ·subst h;rw[nd_zero hB];simp
  ·rw[nd_pos hB h];simp;omega
 |succ k ih=>
  by_cases h:n=0
  ·subst h;rw[nd_zero hB];simp;exact Nat.pow_pos (by omega)
  ·rw[nd_pos hB h,List.length_cons,Nat.add_le_add_iff_right,ih (n/B),Nat.pow_succ,Nat.div_lt_iff_lt_mul (by omega)]
theorem nd_snoc (xs:List Int) (d:Int) (h:dig B (xs++[d])=true) (hd:d≠0):nd B (dval B (xs++[d]))=xs++[d]:=by
 induction xs with
 |nil=>
  rw[List.nil_append,dig_cons]at h;have e:dval B [d]=d.toNat:=by simp [dval]
  rw[List.nil_append,e,nd_pos hB (by omega),Nat.mod_eq_of_lt (by omega),Nat.div_eq_of_lt (by omega),nd_zero hB];congr 1;omega
 |cons x r ih=>
  rw[List.cons_append,dig_cons]at h;have:=ih h.2;have hp:dval B (r++[d])≠0:=by
   intro q;rw[q,nd_zero hB]at this;simp at this
  rw[List.cons_append,dval];have hx:x.toNat<B:=by omega
  have hne:x.toNat+B*dval B (r++[d])≠0:=by
   have:0<B*dval B (r++[d]):=Nat.mul_pos (by omega) (by omega);omega
  rw[nd_pos hB hne,Nat.add_mul_mod_self_left,Nat.mod_eq_of_lt hx,Nat.add_mul_div_left _ _ (by omega),Nat.div_eq_of_lt hx,Nat.zero_add,this];congr 1;omega
omit hB in
theorem dval_snoc_zero (xs:List Int):dval B (xs++[0])=dval B xs:=by
 rw[dval_append];simp [dval]
omit hB in
theorem dval_zeros (xs:List Int) (k:Nat):dval B (xs++List.replicate k 0)=dval B xs:=by
 rw[dval_append];have:dval B (List.replicate k 0)=0:=by
  induction k with
  |zero=>rfl
  |succ k ih=>rw[List.replicate_succ,dval,ih];simp
 rw[this];simp
end
end Go.Cm
end
section
set_option linter.unusedVariables false
namespace Go.Cm
structure Win (B D X u2 U v1 v2 V:Nat):Prop where
 hu2:u2<B
 hv2:v2<B
 hv1:0<v1
 lo:(X*B+u2)*D<=U
 hi:U<(X*B+u2+1)*D
 vlo:(v1*B+v2)*D<=V
 vhi:V<(v1*B+v2+1)*D
 hU:U<B*V
namespace Win
variable {B D X u2 U v1 v2 V:Nat} (h:Win B D X u2 U v1 v2 V)
include h
theorem dpos:0<D:=by
 have:=h.hi;exact Nat.pos_of_ne_zero (fun e=>by rw[e]at this;simp at this)
theorem bpos:0<B:=by have:=h.hu2;omega
theorem vpos:0<V:=by
 have h1:=h.vlo;have:0<(v1*B+v2)*D:=Nat.mul_pos (Nat.add_pos_left (Nat.mul_pos h.hv1 h.bpos) _) h.dpos;omega
theorem xlt:X<(v1+1)*B:=by
 have h1:X*B*D<=U:=Nat.le_trans (Nat.mul_le_mul_right D (Nat.le_add_right _ _)) h.lo;have h2:V<(v1+1)*B*D:=by
  refine Nat.lt_of_lt_of_le h.vhi (Nat.mul_le_mul_right D ?_);have:=h.hv2;rw[Nat.add_mul,Nat.one_mul];omega
 have h3:X*B*D<(v1+1)*B*(B*D):=by
  refine Nat.lt_of_le_of_lt h1 (Nat.lt_of_lt_of_le h.hU ?_)
  calc B*V<=B*((v1+1)*B*D):=Nat.mul_le_mul_left _ (Nat.le_of_lt h2)
   _=(v1+1)*B*(B*D):=by ac_rfl
 rw[Nat.mul_assoc]at h3;exact Nat.lt_of_mul_lt_mul_right h3
theorem start:U/V<=X/v1:=by
 rw[Nat.le_div_iff_mul_le h.hv1];have h1:U/V*V<=U:=Nat.div_mul_le_self _ _;have h2:U/V*v1*(B*D)<=U/V*V:=by
  rw[Nat.mul_assoc];refine Nat.mul_le_mul_left _ ?_;rw[<-Nat.mul_assoc];exact Nat.le_trans (Nat.mul_le_mul_right D (Nat.le_add_right _ _)) h.vlo
 have h3:U<(X+1)*(B*D):=by
  refine Nat.lt_of_lt_of_le h.hi ?_;rw[<-Nat.mul_assoc];refine Nat.mul_le_mul_right D ?_;have:=h.hu2;rw[Nat.add_mul,Nat.one_mul];omega
 have h4:U/V*v1*(B*D)<(X+1)*(B*D):=by omega
 have:=Nat.lt_of_mul_lt_mul_right h4;omega
theorem down {q r:Nat} (e:q*v1+r=X) (hq:U/V<=q) (t:B<=q\/r*B+u2<q*v2):U/V<q:=by
 rcases t with t|t
 ·have:U/V<B:=(Nat.div_lt_iff_lt_mul h.vpos).2 h.hU;omega
 ·rw[Nat.div_lt_iff_lt_mul h.vpos];have e1:X*B+u2+1<=q*(v1*B+v2):=by
   rw[<-e,Nat.add_mul,Nat.mul_add,Nat.mul_assoc];omega
  calc U<(X*B+u2+1)*D:=h.hi
   _<=q*(v1*B+v2)*D:=Nat.mul_le_mul_right D e1
   _=q*((v1*B+v2)*D):=Nat.mul_assoc _ _ _
   _<=q*V:=Nat.mul_le_mul_left _ h.vlo
theorem qlt {q r:Nat} (e:q*v1+r=X) (t:B<=r):q<B:=by
 have hx:=h.xlt;rcases Nat.lt_or_ge q B with g|g
 ·exact g
 ·have:B*v1<=q*v1:=Nat.mul_le_mul_right _ g;rw[Nat.add_mul,Nat.one_mul,Nat.mul_comm v1 B]at hx;omega
theorem done {q r:Nat} (e:q*v1+r=X) (t:(q<B/\q*v2<=r*B+u2)\/B<=r):q<B/\q*V<U+V:=by
 have hq:q<B:=by
  rcases t with t|t
  ·exact t.1
  ·exact h.qlt e t
 refine⟨hq,?_⟩;have h2:q*v2<=r*B+u2:=by
  rcases t with t|t
  ·exact t.2
  ·have a:q*v2<=B*B:=Nat.mul_le_mul (Nat.le_of_lt hq) (Nat.le_of_lt h.hv2);have b:B*B<=r*B:=Nat.mul_le_mul_right _ t;omega
 have e1:q*(v1*B+v2)<=X*B+u2:=by
  rw[<-e,Nat.add_mul,Nat.mul_add,Nat.mul_assoc];omega
 rcases Nat.eq_zero_or_pos q with g|g
 ·subst g;have:=h.vpos;omega
 ·have a:q*V<q*((v1*B+v2+1)*D):=Nat.mul_lt_mul_of_pos_left h.vhi g;have b:q*((v1*B+v2+1)*D)=q*(v1*B+v2)*D+q*D:=by
   rw[Nat.add_mul,Nat.one_mul,Nat.mul_add,Nat.mul_assoc]
  have c:q*(v1*B+v2)*D<=U:=Nat.le_trans (Nat.mul_le_mul_right D e1) h.lo;have d:q*D<=V:=by
   refine Nat.le_trans (Nat.mul_le_mul_right D (?_:q<=v1*B+v2)) h.vlo;have:B<=v1*B:=Nat.le_mul_of_pos_left _ h.hv1;omega
  omega
end Win
theorem near {U V q:Nat} (hV:0<V) (h1:U/V<=q) (h2:q*V<U+V):(q*V<=U->q=U/V)/\(U<q*V->q=U/V+1):=by
 have h3:q<U/V+2:=by
  rcases Nat.lt_or_ge q (U/V+2)with g|g
  ·exact g
  ·have a:(U/V+2)*V<=q*V:=Nat.mul_le_mul_right _ g;have b:U<(U/V+1)*V:=by
    have:=Nat.lt_div_mul_add hV (a:=U);rw[Nat.add_mul,Nat.one_mul];exact this
   rw[Nat.add_mul]at a b;omega
 refine⟨fun g=> ?_,fun g=> ?_⟩
 ·have:q<=U/V:=(Nat.le_div_iff_mul_le hV).2 g;omega
 ·have:U/V<q:=(Nat.div_lt_iff_lt_mul hV).2 g;omega
end Go.Cm
end
section
set_option linter.unusedVariables false
namespace Go.Cm
abbrev B32:Nat:=4294967296
theorem B32_le:2<=B32:=by decide
abbrev B10:Nat:=1000000000
theorem B10_le:2<=B10:=by decide
theorem take_snoc (xs:List Int) (n:Nat) (h:xs.length=n+1):xs=xs.take n++[xs[n]]:=by
 rw[List.take_append_getElem,List.take_of_length_le (by omega)]
theorem u32_mod (n:Int) (h:0<=n):Go.IntKind.wrap Go.IntKind.u32 n=n%4294967296:=by
 unfold Go.IntKind.wrap
 first|rfl|(simp [Go.IntKind.bits,Go.IntKind.signed]<;>omega)
theorem wu {x:Int} (h0:0<=x) (h1:x<18446744073709551616):Go.IntKind.wrap Go.IntKind.u64 x=x:=IntWalk.u64_in _ (by omega)
theorem w32 {x:Int} (h0:0<=x) (h1:x<4294967296):Go.IntKind.wrap Go.IntKind.u32 x=x:=IntWalk.u32_in _ (by omega)
def cmpN (a b:Nat):Int:=if a<b then -1 else if b<a then 1 else 0
theorem canon_small {B:Nat} (hB:2<=B) {xs ys:List Int} (hx:canon B xs=true) (hy:canon B ys=true) (h:xs.length<ys.length):dval B xs<dval B ys:=by
 have h1:=dval_lt (canon_dig hx);have h2:¬(nd B (dval B ys)).length<=xs.length:=by rw[canon_eq hy];omega
 rw[nd_len hB]at h2;omega
theorem dval_top {B:Nat} (xs ys:List Int) (i:Nat) (hx:i<xs.length) (hy:i<ys.length) (dx:dig B xs=true) (dy:dig B ys=true) (h:xs[i]<ys[i]):dval B (xs.take (i+1))<dval B (ys.take (i+1)):=by
 rw[<-List.take_append_getElem hx,<-List.take_append_getElem hy,dval_append,dval_append];have hdx:dig B (xs.take i)=true:=by
  have:=List.take_append_drop i xs;rw[<-this,dig_append,Bool.and_eq_true]at dx;exact dx.1
 have h1:=dval_lt hdx;have hlx:(xs.take i).length=i:=by simp;omega
 have hly:(ys.take i).length=i:=by simp;omega
 rw[hlx]at h1 ⊢;rw[hly];have a:=dig_get dx hx;have e1:dval B [xs[i]]=xs[i].toNat:=by simp [dval]
 have e2:dval B [ys[i]]=ys[i].toNat:=by simp [dval]
 rw[e1,e2];have:B^i*(xs[i].toNat+1)<=B^i*ys[i].toNat:=Nat.mul_le_mul_left _ (by omega);rw[Nat.mul_add,Nat.mul_one]at this;omega
def qdiv (B b:Nat):List Int->List Int×Nat
 | []=>([],0)
 |x::r=>(((((qdiv B b r).2*B+x.toNat)/b:Nat):Int)::(qdiv B b r).1,((qdiv B b r).2*B+x.toNat)%b)
theorem qdiv_ok (B b:Nat) (hb:0<b) (xs:List Int) (h:dig B xs=true):dig B (qdiv B b xs).1=true/\(qdiv B b xs).1.length=xs.length/\dval B (qdiv B b xs).1=dval B xs/b/\(qdiv B b xs).2=dval B xs%b:=by
 induction xs with
 |nil=>simp [qdiv,dval,dig]
 |cons x r ih=>
  rw[dig_cons]at h;obtain⟨i1,i2,i3,i4⟩:=ih h.2;unfold qdiv;rw[i4];have hm:=Nat.mod_lt (dval B r) hb;have hx:x.toNat<B:=by omega
  have hlt:dval B r%b*B+x.toNat<b*B:=by
   have:(dval B r%b+1)*B<=b*B:=Nat.mul_le_mul_right _ hm;rw[Nat.add_mul,Nat.one_mul]at this;omega
  have e:x.toNat+B*dval B r=(dval B r%b*B+x.toNat)+b*(B*(dval B r/b)):=by
   have:=Nat.mod_add_div (dval B r) b;have e1:B*dval B r=B*(dval B r%b)+B*(b*(dval B r/b)):=by rw[<-Nat.mul_add,this]
   rw[e1,Nat.mul_left_comm B b,Nat.mul_comm B (dval B r%b)];omega
  refine⟨?_,by simp [i2],?_,?_⟩
  ·rw[dig_cons];refine⟨⟨Int.natCast_nonneg _,?_⟩,i1⟩;exact Int.ofNat_lt.2 ((Nat.div_lt_iff_lt_mul hb).2 (by rw[Nat.mul_comm B b];exact hlt))
  ·show(((dval B r%b*B+x.toNat)/b:Nat):Int).toNat+B*dval B (qdiv B b r).1=(x.toNat+B*dval B r)/b;rw[i3,e,Nat.add_mul_div_left _ _ hb,Int.toNat_natCast]
  ·show(dval B r%b*B+x.toNat)%b=(x.toNat+B*dval B r)%b;rw[e,Nat.add_mul_mod_self_left]
theorem set_back (m:Nat) (q:List Int) (v:Int):(List.replicate (m+1) (0:Int)++q).set m v=List.replicate m 0++v::q:=by
 rw[List.replicate_succ',List.append_assoc,List.set_append_right _ _ (by simp)];simp
theorem nd_full {B:Nat} (hB:2<=B) {xs:List Int} (h:dig B xs=true) (hn:xs≠ []) (hv:B^(xs.length - 1)<=dval B xs):nd B (dval B xs)=xs:=by
 obtain⟨m,hm⟩:∃m,xs.length=m+1:=⟨xs.length - 1,by have:=List.length_pos_iff.2 hn;omega⟩
 have hs:=take_snoc xs m hm;have hd:dig B (xs.take m++[xs[m]])=true:=by rw[<-hs];exact h
 by_cases hz:xs[m]=0
 ·have hd':=hd;rw[dig_append,Bool.and_eq_true]at hd';have h1:=dval_lt hd'.1;have h2:dval B xs=dval B (xs.take m):=by
   conv=>lhs;rw[hs,hz]
   exact dval_snoc_zero _
  have h3:(xs.take m).length=m:=by simp;omega
  rw[h3]at h1;rw[hm,Nat.add_sub_cancel,h2]at hv;omega
 ·have:=nd_snoc hB (xs.take m) xs[m] hd hz;rw[<-hs]at this;exact this
theorem nd_low {B:Nat} (hB:2<=B) {n:Nat} (h:n≠0):B^((nd B n).length - 1)<=n:=by
 have h0:(nd B n).length≠0:=by rw[nd_pos hB h];simp
 have:=nd_len hB n ((nd B n).length - 1);rcases Nat.lt_or_ge n (B^((nd B n).length - 1))with g|g
 ·have:=this.2 g;omega
 ·exact g
def mulUp (B d:Nat) (xs:List Int):Nat->List Int×Nat
 |0=>([],0)
 |i+1=>((mulUp B d xs i).1++[((((xs.getD i 0).toNat*d+(mulUp B d xs i).2)%B:Nat):Int)],((xs.getD i 0).toNat*d+(mulUp B d xs i).2)/B)
theorem mulUp_ok {B d:Nat} (hB:2<=B) {xs:List Int} (h:dig B xs=true) (i:Nat) (hi:i<=xs.length):dig B (mulUp B d xs i).1=true/\(mulUp B d xs i).1.length=i/\dval B (mulUp B d xs i).1+B^i*(mulUp B d xs i).2=dval B (xs.take i)*d/\(mulUp B d xs i).2<=d:=by
 induction i with
 |zero=>simp [mulUp,dval,dig]
 |succ i ih=>
  obtain⟨h1,h2,h3,h4⟩:=ih (by omega);have hi':i<xs.length:=hi;have hg:xs.getD i 0=xs[i]:=by simp [hi']
  have hx:=dig_get h hi';unfold mulUp;rw[hg];generalize mulUp B d xs i=p at*;have hm:=Nat.mod_lt (xs[i].toNat*d+p.2) (show B>0 by omega);have hma:=Nat.mod_add_div (xs[i].toNat*d+p.2) B;refine⟨?_,by simp [h2],?_,?_⟩
  ·rw[dig_append,h1,Bool.true_and,dig_cons];exact⟨⟨Int.natCast_nonneg _,Int.ofNat_lt.2 hm⟩,rfl⟩
  ·dsimp only;rw[<-List.take_append_getElem hi',dval_append,dval_append,h2];have hl:(xs.take i).length=i:=by simp;omega
   have e1:dval B [xs[i]]=xs[i].toNat:=by simp [dval]
   have e2:dval B [(((xs[i].toNat*d+p.2)%B:Nat):Int)]=(xs[i].toNat*d+p.2)%B:=by rw[dval,Int.toNat_natCast];rfl
   rw[hl,e1,e2,Nat.add_mul,<-h3,Nat.pow_succ,Nat.add_assoc,Nat.mul_assoc (B^i) B,<-Nat.mul_add,hma,Nat.mul_add,Nat.mul_assoc];omega
  ·dsimp only;rw[Nat.div_le_iff_le_mul_add_pred (by omega)];have:xs[i].toNat*d<=(B - 1)*d:=Nat.mul_le_mul_right _ (by omega);have e:(B - 1)*d+d=B*d:=by
    rw[<-Nat.succ_mul];congr 1;omega
   omega
end Go.Cm
end
section
set_option linter.unusedVariables false
namespace Go.Cm
def fd (B:Nat):Nat->Nat->List Int
 |0,_=>[]
 |n+1,x=>((x%B:Nat):Int)::fd B n (x/B)
theorem fd_len (B n x:Nat):(fd B n x).length=n:=by
 induction n generalizing x with
 |zero=>rfl
 |succ n ih=>simp [fd,ih]
theorem dig_fd {B:Nat} (hB:0<B) (n x:Nat):dig B (fd B n x)=true:=by
 induction n generalizing x with
 |zero=>rfl
 |succ n ih=>
  rw[fd,dig_cons];exact⟨⟨Int.natCast_nonneg _,Int.ofNat_lt.2 (Nat.mod_lt _ hB)⟩,ih _⟩
theorem dval_fd (B n x:Nat):dval B (fd B n x)=x%B^n:=by
 induction n generalizing x with
 |zero=>simp [fd,dval,Nat.mod_one]
 |succ n ih=>
  rw[fd,dval,ih,Int.toNat_natCast,Nat.pow_succ,Nat.mul_comm (B^n) B,Nat.mod_mul]
theorem fd_dval {B:Nat} (hB:0<B) {xs:List Int} (h:dig B xs=true):fd B xs.length (dval B xs)=xs:=by
 induction xs with
 |nil=>rfl
 |cons x r ih=>
  rw[dig_cons]at h;have hx:x.toNat<B:=by omega
  rw[List.length_cons,fd,dval,Nat.add_mul_mod_self_left,Nat.mod_eq_of_lt hx,Nat.add_mul_div_left _ _ hB,Nat.div_eq_of_lt hx,Nat.zero_add,ih h.2];congr 1;omega
theorem fd_snoc (B n x:Nat):fd B (n+1) x=fd B n x++[((x/B^n%B:Nat):Int)]:=by
 induction n generalizing x with
 |zero=>simp [fd]
 |succ n ih=>
  rw[fd,ih (x/B),fd,List.cons_append,Nat.div_div_eq_div_mul,Nat.pow_succ,Nat.mul_comm (B^n) B]
theorem fd_mod (B n x:Nat):fd B n (x%B^n)=fd B n x:=by
 induction n generalizing x with
 |zero=>rfl
 |succ n ih=>
  have e1:x%B^(n+1)%B=x%B:=Nat.mod_mod_of_dvd _ (by rw[Nat.pow_succ];exact Nat.dvd_mul_left _ _);have e2:x%B^(n+1)/B=x/B%B^n:=by
   rw[Nat.pow_succ,Nat.mul_comm (B^n) B,Nat.mod_mul_right_div_self]
  rw[fd,fd,e1,e2,ih]
theorem nd_fd {B:Nat} (hB:2<=B) {n x:Nat} (h:x<B^n):nd B (dval B (fd B n x))=nd B x:=by
 rw[dval_fd,Nat.mod_eq_of_lt h]
end Go.Cm
end
section
set_option linter.unusedVariables false
namespace Go.Cm
theorem bv_or (a b:Nat) (ha:a<2^32) (hb:b<2^32):((BitVec.ofInt 32 (a:Int))|||(BitVec.ofInt 32 (b:Int))).toNat=a|||b:=by
 rw[BitVec.ofInt_natCast,BitVec.ofInt_natCast,BitVec.toNat_or,BitVec.toNat_ofNat,BitVec.toNat_ofNat,Nat.mod_eq_of_lt ha,Nat.mod_eq_of_lt hb]
theorem or_apart (a b s:Nat) (ha:a<2^s):a|||2^s*b=a+2^s*b:=by
 have:=Nat.two_pow_add_eq_or_of_lt ha b;rw[Nat.or_comm,<-this,Nat.add_comm]
theorem shl_low (x s:Nat) (hs:s<=32):x*2^s%2^32=2^s*(x%2^(32 - s)):=by
 have:(2:Nat)^32=2^s*2^(32 - s):=by rw[<-Nat.pow_add];congr 1;omega
 rw[this,Nat.mul_comm x,Nat.mul_mod_mul_left]
end Go.Cm
end
section
set_option linter.unusedVariables false
namespace Go.Cm
def addUp (B:Nat) (xs ys:List Int):Nat->List Int×Nat
 |0=>([],0)
 |i+1=>((addUp B xs ys i).1++[((((addUp B xs ys i).2+(xs.getD i 0).toNat+(ys.getD i 0).toNat)%B:Nat):Int)],((addUp B xs ys i).2+(xs.getD i 0).toNat+(ys.getD i 0).toNat)/B)
theorem dig_getD {B:Nat} (hB:0<B) {xs:List Int} (h:dig B xs=true) (i:Nat):0<=xs.getD i 0/\xs.getD i 0<(B:Int):=by
 by_cases hi:i<xs.length
 ·have:=dig_get h hi;simpa [hi]using this
 ·rw[List.getD_eq_getElem?_getD,List.getElem?_eq_none (Nat.le_of_not_lt hi)];simp;omega
theorem dval_take_succ {B:Nat} (xs:List Int) (i:Nat):dval B (xs.take (i+1))=dval B (xs.take i)+B^i*(xs.getD i 0).toNat:=by
 by_cases hi:i<xs.length
 ·rw[<-List.take_append_getElem hi,dval_append];have hl:(xs.take i).length=i:=by simp;omega
  have e:dval B [xs[i]]=(xs.getD i 0).toNat:=by simp [dval,hi]
  rw[hl,e]
 ·rw[List.take_of_length_le (by omega),List.take_of_length_le (by omega),List.getD_eq_getElem?_getD,List.getElem?_eq_none (Nat.le_of_not_lt hi)];simp
theorem addUp_ok {B:Nat} (hB:2<=B) {xs ys:List Int} (hx:dig B xs=true) (hy:dig B ys=true) (i:Nat):dig B (addUp B xs ys i).1=true/\(addUp B xs ys i).1.length=i/\dval B (addUp B xs ys i).1+B^i*(addUp B xs ys i).2=dval B (xs.take i)+dval B (ys.take i)/\(addUp B xs ys i).2<=1:=by
 induction i with
 |zero=>simp [addUp,dval,dig]
 |succ i ih=>
  obtain⟨h1,h2,h3,h4⟩:=ih;have gx:=dig_getD (by omega) hx i;have gy:=dig_getD (by omega) hy i;unfold addUp;rw[dval_take_succ,dval_take_succ];generalize xs.getD i 0=x at*;generalize ys.getD i 0=y at*;generalize addUp B xs ys i=p at*;have hm:=Nat.mod_lt (p.2+x.toNat+y.toNat) (show B>0 by omega);have hma:=Nat.mod_add_div (p.2+x.toNat+y.toNat) B;refine⟨?_,by simp [h2],?_,?_⟩
  ·rw[dig_append,h1,Bool.true_and,dig_cons];exact⟨⟨Int.natCast_nonneg _,Int.ofNat_lt.2 hm⟩,rfl⟩
  ·dsimp only;rw[dval_append,h2];have e2:dval B [(((p.2+x.toNat+y.toNat)%B:Nat):Int)]=(p.2+x.toNat+y.toNat)%B:=by rw[dval,Int.toNat_natCast];rfl
   rw[e2,Nat.pow_succ,Nat.add_assoc,Nat.mul_assoc (B^i) B,<-Nat.mul_add,hma,Nat.mul_add,Nat.mul_add];omega
  ·dsimp only;have:(p.2+x.toNat+y.toNat)/B<2:=(Nat.div_lt_iff_lt_mul (by omega)).2 (by omega);omega
def takeUp (B t:Nat) (xs ys:List Int):Nat->List Int×Nat×Nat
 |0=>([],0,0)
 |i+1=>
  let p:=takeUp B t xs ys i
  let c:=p.2.1+t*(ys.getD i 0).toNat
  let n:Int:=xs.getD i 0 - ((c%B:Nat):Int) - (p.2.2:Int)
  (p.1++[n%(B:Int)],c/B,if n<0 then 1 else 0)
theorem takeUp_ok {B t:Nat} (hB:2<=B) {xs ys:List Int} (hx:dig B xs=true) (hy:dig B ys=true) (i:Nat):dig B (takeUp B t xs ys i).1=true/\(takeUp B t xs ys i).1.length=i/\dval B (takeUp B t xs ys i).1+dval B (ys.take i)*t=dval B (xs.take i)+B^i*((takeUp B t xs ys i).2.1+(takeUp B t xs ys i).2.2)/\(takeUp B t xs ys i).2.1<=t/\(takeUp B t xs ys i).2.2<=1:=by
 induction i with
 |zero=>simp [takeUp,dval,dig]
 |succ i ih=>
  obtain⟨h1,h2,h3,h4,h5⟩:=ih;have gx:=dig_getD (by omega) hx i;have gy:=dig_getD (by omega) hy i;unfold takeUp;rw[dval_take_succ,dval_take_succ];generalize xs.getD i 0=x at*;generalize ys.getD i 0=y at*;generalize takeUp B t xs ys i=p at*;obtain⟨pl,c0,l0⟩:=p;dsimp only at*;obtain⟨X,rfl⟩:∃X:Nat,x=(X:Int):=⟨x.toNat,by omega⟩
  obtain⟨Y,rfl⟩:∃Y:Nat,y=(Y:Int):=⟨y.toNat,by omega⟩
  rw[Int.toNat_natCast,Int.toNat_natCast];have hYB:Y<B:=by omega
  have hXB:X<B:=by omega
  have hm:=Nat.mod_lt (c0+t*Y) (show B>0 by omega);have hma:=Nat.mod_add_div (c0+t*Y) B;have hcb:(c0+t*Y)/B<=t:=by
   rw[Nat.div_le_iff_le_mul_add_pred (by omega)];have:t*Y<=t*(B - 1):=Nat.mul_le_mul_left _ (by omega);have e:t*(B - 1)+t=t*B:=by rw[<-Nat.mul_succ];congr 1;omega
   rw[Nat.mul_comm B t];omega
  generalize hlow:(c0+t*Y)%B=low at*;generalize hc1:(c0+t*Y)/B=c1 at*;obtain⟨d,l1,hd,hl,hdB,hl1,hsum⟩:∃d l1:Nat,((X:Int) - (low:Int) - (l0:Int))%(B:Int)=(d:Int)/\(if(X:Int) - (low:Int) - (l0:Int)<0 then 1 else 0)=l1/\d<B/\l1<=1/\d+low+l0=X+B*l1:=by
   by_cases hn:(X:Int) - (low:Int) - (l0:Int)<0
   ·refine⟨X+B - low - l0,1,?_,if_pos hn,by omega,by omega,by omega⟩;rw[<-Int.add_emod_right,Int.emod_eq_of_lt (by omega) (by omega)];omega
   ·refine⟨X - low - l0,0,?_,if_neg hn,by omega,by omega,by omega⟩;rw[Int.emod_eq_of_lt (by omega) (by omega)];omega
  rw[hd,hl];refine⟨?_,by simp [h2],?_,hcb,hl1⟩
  ·rw[dig_append,h1,Bool.true_and,dig_cons];exact⟨⟨Int.natCast_nonneg _,Int.ofNat_lt.2 hdB⟩,rfl⟩
  ·rw[dval_append,h2,show dval B [(d:Int)]=d by simp [dval],Nat.pow_succ];have e1:(dval B (ys.take i)+B^i*Y)*t=dval B (ys.take i)*t+B^i*(t*Y):=by rw[Nat.add_mul,Nat.mul_assoc,Nat.mul_comm Y t]
   have e2:B^i*B*(c1+l1)=B^i*(B*c1+B*l1):=by rw[Nat.mul_assoc,Nat.mul_add B]
   rw[e1,e2];have e3:B^i*d+B^i*low+B^i*l0=B^i*X+B^i*(B*l1):=by rw[<-Nat.mul_add,<-Nat.mul_add,<-Nat.mul_add,hsum]
   have e4:B^i*low+B^i*(B*c1)=B^i*c0+B^i*(t*Y):=by rw[<-Nat.mul_add,<-Nat.mul_add,hma]
   rw[Nat.mul_add]at h3 ⊢;omega
def offUp (B t:Nat) (xs ys:List Int):Nat->List Int×Nat
 |0=>([],0)
 |i+1=>
  let p:=offUp B t xs ys i
  let m:=(ys.getD i 0).toNat*t
  let n:Int:=xs.getD i 0 - ((m%B:Nat):Int) - (p.2:Int)
  (p.1++[n%(B:Int)],m/B+(if n<0 then(if n+(B:Int)<0 then 2 else 1)else 0))
theorem offUp_ok {B t:Nat} (hB:2<=B) (ht:t<B) {xs ys:List Int} (hx:dig B xs=true) (hy:dig B ys=true) (i:Nat):dig B (offUp B t xs ys i).1=true/\(offUp B t xs ys i).1.length=i/\dval B (offUp B t xs ys i).1+dval B (ys.take i)*t=dval B (xs.take i)+B^i*(offUp B t xs ys i).2/\(offUp B t xs ys i).2<=t:=by
 induction i with
 |zero=>simp [offUp,dval,dig]
 |succ i ih=>
  obtain⟨h1,h2,h3,h4⟩:=ih;have gx:=dig_getD (by omega) hx i;have gy:=dig_getD (by omega) hy i;unfold offUp;rw[dval_take_succ,dval_take_succ];generalize xs.getD i 0=x at*;generalize ys.getD i 0=y at*;generalize offUp B t xs ys i=p at*;obtain⟨pl,c0⟩:=p;dsimp only at*;obtain⟨X,rfl⟩:∃X:Nat,x=(X:Int):=⟨x.toNat,by omega⟩
  obtain⟨Y,rfl⟩:∃Y:Nat,y=(Y:Int):=⟨y.toNat,by omega⟩
  rw[Int.toNat_natCast,Int.toNat_natCast];have hYB:Y<B:=by omega
  have hXB:X<B:=by omega
  have hm:=Nat.mod_lt (Y*t) (show B>0 by omega);have hma:=Nat.mod_add_div (Y*t) B;have hYt:Y*t+t<=B*t:=by
   have:(Y+1)*t<=B*t:=Nat.mul_le_mul_right _ hYB;rw[Nat.add_mul,Nat.one_mul]at this;exact this
  generalize hlow:(Y*t)%B=low at*;generalize hc1:(Y*t)/B=c1 at*;obtain⟨d,l1,hd,hl,hdB,hsum⟩:∃d l1:Nat,((X:Int) - (low:Int) - (c0:Int))%(B:Int)=(d:Int)/\(if(X:Int) - (low:Int) - (c0:Int)<0 then(if(X:Int) - (low:Int) - (c0:Int)+(B:Int)<0 then 2 else 1)else 0)=l1/\d<B/\d+low+c0=X+B*l1:=by
   by_cases hn:(X:Int) - (low:Int) - (c0:Int)<0
   ·by_cases hn2:(X:Int) - (low:Int) - (c0:Int)+(B:Int)<0
    ·refine⟨X+B+B - low - c0,2,?_,by rw[if_pos hn,if_pos hn2],by omega,by omega⟩;rw[<-Int.add_emod_right,<-Int.add_emod_right,Int.emod_eq_of_lt (by omega) (by omega)];omega
    ·refine⟨X+B - low - c0,1,?_,by rw[if_pos hn,if_neg hn2],by omega,by omega⟩;rw[<-Int.add_emod_right,Int.emod_eq_of_lt (by omega) (by omega)];omega
   ·refine⟨X - low - c0,0,?_,if_neg hn,by omega,by omega⟩;rw[Int.emod_eq_of_lt (by omega) (by omega)];omega
  rw[hd,hl];refine⟨?_,by simp [h2],?_,?_⟩
  ·rw[dig_append,h1,Bool.true_and,dig_cons];exact⟨⟨Int.natCast_nonneg _,Int.ofNat_lt.2 hdB⟩,rfl⟩
  ·rw[dval_append,h2,show dval B [(d:Int)]=d by simp [dval],Nat.pow_succ];have e1:(dval B (ys.take i)+B^i*Y)*t=dval B (ys.take i)*t+B^i*(Y*t):=by rw[Nat.add_mul,Nat.mul_assoc]
   have e2:B^i*B*(c1+l1)=B^i*(B*c1)+B^i*(B*l1):=by rw[Nat.mul_assoc,Nat.mul_add B,Nat.mul_add]
   rw[e1,e2];have e3:B^i*d+B^i*low+B^i*c0=B^i*X+B^i*(B*l1):=by rw[<-Nat.mul_add,<-Nat.mul_add,<-Nat.mul_add,hsum]
   have e4:B^i*low+B^i*(B*c1)=B^i*(Y*t):=by rw[<-Nat.mul_add,hma]
   omega
  ·have e5:B*(c1+l1)<B*(t+1):=by
    rw[Nat.mul_add,Nat.mul_add];omega
   have:=Nat.lt_of_mul_lt_mul_left e5;omega
theorem u32_emod (n:Int):Go.IntKind.wrap Go.IntKind.u32 n=n%4294967296:=by
 unfold Go.IntKind.wrap
 first|rfl|(simp [Go.IntKind.bits,Go.IntKind.signed]<;>omega)
theorem ediv_top {b x:Nat} (hb:x<b) (c:Int):((x:Int)+(b:Int)*c)%(b:Int)=x/\((x:Int)+(b:Int)*c)/(b:Int)=c:=by
 constructor
 ·rw[Int.add_mul_emod_self_left,Int.emod_eq_of_lt (by omega) (by omega)]
 ·rw[Int.add_mul_ediv_left _ _ (by omega),Int.ediv_eq_zero_of_lt (by omega) (by omega),Int.zero_add]
theorem win_getD {u:List Int} {j n i:Nat} (hi:i<n):((u.drop j).take n).getD i 0=u.getD (j+i) 0:=by
 simp [hi]
theorem win_dig {B:Nat} {u:List Int} (h:dig B u=true) (j n:Nat):dig B ((u.drop j).take n)=true:=by
 have h1:dig B (u.drop j)=true:=by
  have:=List.take_append_drop j u;rw[<-this,dig_append,Bool.and_eq_true]at h;exact h.2
 have:=List.take_append_drop n (u.drop j);rw[<-this,dig_append,Bool.and_eq_true]at h1;exact h1.1
theorem mid_set {α:Type} {A R:List α} {x v:α} {i:Nat} (h:A.length=i):(A++x::R).set i v=(A++[v])++R:=by
 subst h;rw[List.set_append_right _ _ (Nat.le_refl _),Nat.sub_self,List.set_cons_zero,List.append_assoc];rfl
theorem mid_get {α:Type} {A R:List α} {x d:α} {i:Nat} (h:A.length=i):(A++x::R).getD i d=x:=by
 subst h;rw[List.getD_eq_getElem?_getD,List.getElem?_append_right (Nat.le_refl _),Nat.sub_self];rfl
theorem drop_cons_getD {xs:List Int} {i:Nat} (h:i<xs.length):xs.drop i=xs.getD i 0::xs.drop (i+1):=by
 rw[List.drop_eq_getElem_cons h];simp [h]
theorem addUp_fd {B:Nat} (hB:2<=B) {xs ys:List Int} (hx:dig B xs=true) (hy:dig B ys=true) (hl:ys.length<=xs.length):(addUp B xs ys xs.length).1=fd B xs.length (dval B xs+dval B ys):=by
 obtain⟨h1,h2,h3,h4⟩:=addUp_ok hB hx hy xs.length;rw[List.take_length,List.take_of_length_le hl]at h3;have:=fd_dval (B:=B) (by omega) h1;rw[h2]at this;rw[<-this,<-h3,<-fd_mod B xs.length (_+_),Nat.add_mul_mod_self_left,fd_mod]
theorem fd_eq {B:Nat} (hB:2<=B) {xs:List Int} {n v:Nat} (h:dig B xs=true) (hn:xs.length=n) (hv:dval B xs=v):xs=fd B n v:=by
 subst hn;subst hv;exact(fd_dval (by omega) h).symm
end Go.Cm
end
section
set_option linter.unusedVariables false
namespace Go.Cm
theorem fd_getD (B:Nat) {m x i:Nat} (h:i<m):(fd B m x).getD i 0=((x/B^i%B:Nat):Int):=by
 induction m generalizing x i with
 |zero=>omega
 |succ m ih=>
  cases i with
  |zero=>simp [fd]
  |succ i=>
   rw[fd,List.getD_cons_succ,ih (by omega),Nat.div_div_eq_div_mul,Nat.pow_succ,Nat.mul_comm B]
theorem fd_split (B n m x:Nat):fd B (n+m) x=fd B n x++fd B m (x/B^n):=by
 induction n generalizing x with
 |zero=>simp [fd]
 |succ n ih=>
  rw[Nat.add_right_comm,fd,ih,fd,List.cons_append,Nat.div_div_eq_div_mul,Nat.pow_succ,Nat.mul_comm B]
theorem fd_zero (B m:Nat):fd B m 0=List.replicate m 0:=by
 induction m with
 |zero=>rfl
 |succ m ih=>rw[fd,List.replicate_succ,Nat.zero_mod,Nat.zero_div,ih];rfl
theorem fd_pad {B n m x:Nat} (h:x<B^n):fd B (n+m) x=fd B n x++List.replicate m 0:=by
 rw[fd_split,Nat.div_eq_of_lt h,fd_zero]
theorem dval_drop {B:Nat} {xs:List Int} {i:Nat} (h:i<xs.length):dval B (xs.drop i)=(xs.getD i 0).toNat+B*dval B (xs.drop (i+1)):=by
 rw[drop_cons_getD h,dval]
theorem dig_take {B:Nat} {u:List Int} (h:dig B u=true) (n:Nat):dig B (u.take n)=true:=win_dig h 0 n
theorem dig_drop {B:Nat} {u:List Int} (h:dig B u=true) (n:Nat):dig B (u.drop n)=true:=by
 have:=List.take_append_drop n u;rw[<-this,dig_append,Bool.and_eq_true]at h;exact h.2
def ldU (B V:Nat) (u0:List Int) (i:Nat):List Int:=u0.take i++fd B (u0.length - i) (dval B (u0.drop i)%V)
def ldQ (B V:Nat) (u0:List Int) (m i:Nat):List Int:=List.replicate i 0++fd B (m - i) (dval B (u0.drop i)/V)
def ldW (B V:Nat) (u0:List Int) (j:Nat):Nat:=(u0.getD j 0).toNat+B*(dval B (u0.drop (j+1))%V)
section
variable {B V:Nat} (hB:2<=B) (hV:0<V) {u0:List Int} (h0:dig B u0=true)
include hB hV h0
theorem ld_step {j:Nat} (hj:j<u0.length):ldU B V u0 (j+1)=u0.take j++fd B (u0.length - j) (ldW B V u0 j):=by
 have _:=hV;have hd:=dig_get h0 hj;have hg:u0.getD j 0=u0[j]:=by simp [hj]
 have hx:u0[j].toNat<B:=by omega
 unfold ldU ldW;rw[show u0.length - j=(u0.length - (j+1))+1 by omega,fd,hg,Nat.add_mul_mod_self_left,Nat.mod_eq_of_lt hx,Nat.add_mul_div_left _ _ (by omega),Nat.div_eq_of_lt hx,Nat.zero_add,<-List.take_append_getElem hj,List.append_assoc];congr 1;rw[List.singleton_append];congr 1;omega
theorem ld_val {j:Nat} (hj:j<u0.length):dval B (u0.drop j)=ldW B V u0 j+V*(B*(dval B (u0.drop (j+1))/V)):=by
 have _:=hB;have _:=hV;have _:=h0;rw[dval_drop hj];unfold ldW;have:=Nat.mod_add_div (dval B (u0.drop (j+1))) V;have e:B*dval B (u0.drop (j+1))=B*(dval B (u0.drop (j+1))%V)+B*(V*(dval B (u0.drop (j+1))/V)):=by rw[<-Nat.mul_add,this]
 rw[e,Nat.mul_left_comm B V];omega
theorem ld_mod {j:Nat} (hj:j<u0.length):dval B (u0.drop j)%V=ldW B V u0 j%V:=by
 rw[ld_val hB hV h0 hj,Nat.add_mul_mod_self_left]
theorem ld_div {j:Nat} (hj:j<u0.length):dval B (u0.drop j)/V=ldW B V u0 j/V+B*(dval B (u0.drop (j+1))/V):=by
 rw[ld_val hB hV h0 hj,Nat.add_mul_div_left _ _ hV]
theorem ld_lt {j:Nat} (hj:j<u0.length):ldW B V u0 j<B*V:=by
 have hd:=dig_get h0 hj;have hg:u0.getD j 0=u0[j]:=by simp [hj]
 have hx:u0[j].toNat<B:=by omega
 unfold ldW;rw[hg];have h1:B*(dval B (u0.drop (j+1))%V+1)<=B*V:=Nat.mul_le_mul_left _ (Nat.mod_lt _ hV);rw[Nat.mul_add,Nat.mul_one]at h1;omega
theorem ld_qlt {j:Nat} (hj:j<u0.length):ldW B V u0 j/V<B:=(Nat.div_lt_iff_lt_mul hV).2 (ld_lt hB hV h0 hj)
theorem ld_U {j:Nat} (hj:j<u0.length):ldU B V u0 j=u0.take j++fd B (u0.length - j) (ldW B V u0 j%V):=by
 unfold ldU;rw[ld_mod hB hV h0 hj]
theorem ld_Q {m j:Nat} (hj:j<u0.length) (hm:j<m):(ldQ B V u0 m (j+1)).set j ((ldW B V u0 j/V:Nat):Int)=ldQ B V u0 m j:=by
 unfold ldQ;rw[set_back];congr 1;have hq:=ld_qlt hB hV h0 hj;rw[ld_div hB hV h0 hj,show m - j=(m - (j+1))+1 by omega,fd,Nat.add_mul_mod_self_left,Nat.mod_eq_of_lt hq,Nat.add_mul_div_left _ _ (by omega),Nat.div_eq_of_lt hq,Nat.zero_add]
theorem ld_first {m:Nat} (hm:m<=u0.length) (ht:dval B (u0.drop m)<V):ldU B V u0 m=u0/\ldQ B V u0 m m=List.replicate m 0:=by
 have _:=hV;unfold ldU ldQ;rw[Nat.mod_eq_of_lt ht,Nat.div_eq_of_lt ht,Nat.sub_self];constructor
 ·have:=fd_dval (B:=B) (by omega) (dig_drop h0 m);rw[List.length_drop]at this;rw[this,List.take_append_drop]
 ·simp [fd]
theorem ld_last {m:Nat} (hm:m<=u0.length) (ht:dval B (u0.drop m)<V) (hVN:V<=B^u0.length):dval B (ldU B V u0 0)=dval B u0%V/\dval B (ldQ B V u0 m 0)=dval B u0/V/\dig B (ldU B V u0 0)=true/\dig B (ldQ B V u0 m 0)=true/\(ldU B V u0 0).length=u0.length/\(ldQ B V u0 m 0).length=m:=by
 unfold ldU ldQ;rw[List.take_zero,List.nil_append,List.replicate_zero,List.nil_append,List.drop_zero,Nat.sub_zero,Nat.sub_zero,dval_fd,dval_fd];have hmod:=Nat.mod_lt (dval B u0) hV;have hdiv:dval B u0/V<B^m:=by
  rw[Nat.div_lt_iff_lt_mul hV];have h1:=dval_append (B:=B) (u0.take m) (u0.drop m);rw[List.take_append_drop]at h1;have h2:=dval_lt (dig_take h0 m);have h3:(u0.take m).length=m:=by simp;omega
  rw[h3]at h1 h2;have h4:B^m*(dval B (u0.drop m)+1)<=B^m*V:=Nat.mul_le_mul_left _ ht;rw[Nat.mul_add,Nat.mul_one]at h4;omega
 refine⟨Nat.mod_eq_of_lt (by omega),Nat.mod_eq_of_lt hdiv,dig_fd (by omega) _ _,dig_fd (by omega) _ _,fd_len _ _ _,fd_len _ _ _⟩
end
theorem ld_win {B V U n:Nat} (hB:2<=B) (hn:2<=n) (hlo:B^(n - 1)<=V) (hhi:V<B^n) (hU:U<B*V):Win B (B^(n - 2)) (U/B^(n - 1)) (U/B^(n - 2)%B) U (V/B^(n - 1)) (V/B^(n - 2)%B) V:=by
 obtain⟨p,rfl⟩:∃p,n=p+2:=⟨n - 2,by omega⟩
 rw[show p+2 - 2=p by omega,show p+2 - 1=p+1 by omega]at*;have hD:0<B^p:=Nat.pow_pos (by omega);have e:∀x,x/B^(p+1)*B+x/B^p%B=x/B^p:=by
  intro x;rw[Nat.pow_succ,<-Nat.div_div_eq_div_mul,Nat.mul_comm];exact Nat.div_add_mod _ _
 refine⟨Nat.mod_lt _ (by omega),Nat.mod_lt _ (by omega),(Nat.div_pos hlo (Nat.pow_pos (by omega))),?_,?_,?_,?_,hU⟩
 ·rw[e];exact Nat.div_mul_le_self _ _
 ·rw[e];have:=Nat.lt_div_mul_add hD (a:=U);rw[Nat.add_mul,Nat.one_mul];exact this
 ·rw[e];exact Nat.div_mul_le_self _ _
 ·rw[e];have:=Nat.lt_div_mul_add hD (a:=V);rw[Nat.add_mul,Nat.one_mul];exact this
theorem ld_top {B a b d:Nat} {u0:List Int} {n m:Nat} (hB:2<=B) (h0:dig B u0=true) (hv:dval B u0=a*d) (hd:0<d) (hN:u0.length=m+n) (ha:a<B^(m+n - 1)) (hn:0<n) (hb:B^(n - 1)<=b):dval B (u0.drop m)<b*d:=by
 have h1:=dval_append (B:=B) (u0.take m) (u0.drop m);rw[List.take_append_drop]at h1;have h3:(u0.take m).length=m:=by simp;omega
 rw[h3]at h1;have h4:a*d<B^(m+n - 1)*d:=Nat.mul_lt_mul_of_pos_right ha hd;have h5:B^(m+n - 1)=B^m*B^(n - 1):=by rw[<-Nat.pow_add];congr 1;omega
 have h6:B^(m+n - 1)*d<=B^m*(b*d):=by
  rw[h5,Nat.mul_assoc];exact Nat.mul_le_mul_left _ (Nat.mul_le_mul_right _ hb)
 have h7:B^m*dval B (u0.drop m)<B^m*(b*d):=by omega
 exact Nat.lt_of_mul_lt_mul_left h7
section
variable {A F R:List Int} {t:Int} {j n:Nat} (hA:A.length=j) (hF:F.length=n)
include hA
theorem sh_take:((A++F)++t::R).take j=A:=by
 rw[List.append_assoc];exact List.take_left' hA
include hF
theorem sh_win:(((A++F)++t::R).drop j).take n=F:=by
 rw[List.append_assoc,List.drop_left' hA];exact List.take_left' hF
theorem sh_top:((A++F)++t::R).getD (j+n) 0=t:=mid_get (by rw[List.length_append,hA,hF])
theorem sh_drop:((A++F)++t::R).drop (j+n+1)=R:=by
 rw[<-List.drop_drop,List.drop_left' (l₁:=A++F) (by rw[List.length_append,hA,hF])];rfl
theorem sh_len:((A++F)++t::R).length=j+n+1+R.length:=by
 rw[List.length_append,List.length_append,List.length_cons,hA,hF];omega
end
section
variable {B V:Nat} (hB:2<=B) (hV:0<V) {u0:List Int} (h0:dig B u0=true) {m n j:Nat} (hN:u0.length=m+n) (hj:j<m) (hhi:V<B^n)
include hB hV h0 hN hj hhi
theorem ld_U_lt:ldW B V u0 j<B^(n+1):=by
 have h1:=ld_lt hB hV h0 (show j<u0.length by omega);have h2:B*V<B*B^n:=Nat.mul_lt_mul_of_pos_left hhi (by omega);rw[Nat.pow_succ,Nat.mul_comm];omega
theorem ld_shape:ldU B V u0 (j+1)=(u0.take j++fd B n (ldW B V u0 j))++((ldW B V u0 j/B^n:Nat):Int)::List.replicate (m - 1 - j) 0:=by
 have h1:=ld_U_lt hB hV h0 hN hj hhi;rw[ld_step hB hV h0 (show j<u0.length by omega),show u0.length - j=n+(1+(m - 1 - j)) by omega,fd_split,List.append_assoc];congr 2;have h2:ldW B V u0 j/B^n<B^1:=by
  rw[Nat.pow_one,Nat.div_lt_iff_lt_mul (Nat.pow_pos (by omega)),Nat.mul_comm,<-Nat.pow_succ];exact h1
 rw[fd_pad h2,fd,fd,Nat.mod_eq_of_lt (by rwa [Nat.pow_one]at h2)];rfl
theorem ld_shape':ldU B V u0 j=(u0.take j++fd B n (ldW B V u0 j%V))++(0:Int)::List.replicate (m - 1 - j) 0:=by
 have h2:ldW B V u0 j%V<B^n:=Nat.lt_trans (Nat.mod_lt _ hV) hhi;rw[ld_U hB hV h0 (show j<u0.length by omega),show u0.length - j=n+(1+(m - 1 - j)) by omega,fd_pad h2,List.append_assoc,show 1+(m - 1 - j)=(m - 1 - j)+1 by omega,List.replicate_succ]
theorem ld_get {i:Nat} (hi:i<=n):(ldU B V u0 (j+1)).getD (j+i) 0=((ldW B V u0 j/B^i%B:Nat):Int):=by
 have _:=hhi;rw[ld_step hB hV h0 (show j<u0.length by omega),List.getD_eq_getElem?_getD,List.getElem?_append_right (by simp;omega),<-List.getD_eq_getElem?_getD];have hl:(u0.take j).length=j:=by simp;omega
 rw[hl,Nat.add_sub_cancel_left,fd_getD B (by omega)]
end
theorem dig_low {B:Nat} (hB:2<=B) {vs:List Int} (h:dig B vs=true) {i:Nat} (hi:i<vs.length):vs.getD i 0=((dval B vs/B^i%B:Nat):Int):=by
 have:=fd_dval (B:=B) (by omega) h
 conv=>lhs;rw[<-this]
 exact fd_getD B hi
theorem splice_all {α:Type} {xs ys:List α} (h:xs.length=ys.length):splice xs ys 0=ys:=by
 unfold splice;rw[List.take_zero,List.nil_append,Nat.zero_add,List.drop_of_length_le (by omega),List.append_nil]
theorem cmpN_lt {a b:Nat} :cmpN a b<0↔a<b:=by
 unfold cmpN;split
 ·simp_all
 ·split<;>simp_all
theorem trim_nd {B:Nat} (hB:2<=B) (n:Nat):∀xs:List Int,xs.length=n->dig B xs=true->xs.take (List.length (List.dropWhile (fun y:Int=>(y==(0:Int))) (List.reverseAux xs ([]:List Int))))=nd B (dval B xs):=by
 induction n with
 |zero=>
  intro xs h _;have:xs=[]:=List.eq_nil_of_length_eq_zero h;subst this;rw[show dval B []=0 from rfl,nd_zero hB];rfl
 |succ n ih=>
  intro xs hx hd;have hs:=take_snoc xs n hx;have hdt:dig B (xs.take n++[xs[n]])=true:=by rw[<-hs];exact hd
  have hl:(xs.take n).length=n:=by simp;omega
  generalize xs.take n=ys at*;generalize xs[n]=z at*;subst hs;rw[List.reverseAux_eq,List.append_nil,List.reverse_append,List.reverse_singleton,List.singleton_append]
  by_cases hz:z=0
  ·subst hz;rw[List.dropWhile_cons_of_pos (by rfl),dval_snoc_zero];rw[dig_append,Bool.and_eq_true]at hdt;have:=ih ys hl hdt.1;rw[List.reverseAux_eq,List.append_nil]at this;have hle:(List.dropWhile (fun y:Int=>(y==(0:Int))) ys.reverse).length<=ys.length:=by
    have:=(List.dropWhile_sublist (fun x:Int=>x==0) (l:=ys.reverse)).length_le;simpa using this
   rw[List.take_append_of_le_length hle,this]
  ·rw[List.dropWhile_cons_of_neg (by simpa using hz),nd_snoc hB ys z hdt hz,List.take_of_length_le (by simp)]
end Go.Cm
end
section
set_option linter.unusedVariables false
namespace Go.Cm
def maUp (B x:Nat) (ws ys:List Int):Nat->List Int×Nat
 |0=>([],0)
 |k+1=>
  let c:=(maUp B x ws ys k).2+(x*(ys.getD k 0).toNat+(ws.getD k 0).toNat)
  ((maUp B x ws ys k).1++[((c%B:Nat):Int)],c/B)
theorem maUp_ok {B x:Nat} (hB:2<=B) (hxB:x<B) {ws ys:List Int} (hx:dig B ws=true) (hy:dig B ys=true) (i:Nat):dig B (maUp B x ws ys i).1=true/\(maUp B x ws ys i).1.length=i/\dval B (maUp B x ws ys i).1+B^i*(maUp B x ws ys i).2=dval B (ws.take i)+x*dval B (ys.take i)/\(maUp B x ws ys i).2<B:=by
 induction i with
 |zero=>simp [maUp,dval,dig];omega
 |succ i ih=>
  obtain⟨h1,h2,h3,h4⟩:=ih;have gx:=dig_getD (by omega) hx i;have gy:=dig_getD (by omega) hy i;unfold maUp;rw[dval_take_succ,dval_take_succ];generalize ws.getD i 0=w at*;generalize ys.getD i 0=y at*;generalize maUp B x ws ys i=p at*;dsimp only;have hm:=Nat.mod_lt (p.2+(x*y.toNat+w.toNat)) (show B>0 by omega);have hma:=Nat.mod_add_div (p.2+(x*y.toNat+w.toNat)) B;refine⟨?_,by simp [h2],?_,?_⟩
  ·rw[dig_append,h1,Bool.true_and,dig_cons];exact⟨⟨Int.natCast_nonneg _,Int.ofNat_lt.2 hm⟩,rfl⟩
  ·rw[dval_append,h2];have e2:dval B [(((p.2+(x*y.toNat+w.toNat))%B:Nat):Int)]=(p.2+(x*y.toNat+w.toNat))%B:=by rw[dval,Int.toNat_natCast];rfl
   rw[e2,Nat.pow_succ,Nat.add_assoc,Nat.mul_assoc (B^i) B,<-Nat.mul_add,hma,Nat.mul_add,Nat.mul_add,Nat.mul_add,Nat.mul_left_comm x];omega
  ·rw[Nat.div_lt_iff_lt_mul (by omega)];have h5:x*y.toNat<=(B - 1)*(B - 1):=Nat.mul_le_mul (by omega) (by omega);obtain⟨b,rfl⟩:∃b,B=b+1:=⟨B - 1,by omega⟩
   rw[Nat.add_sub_cancel]at h5;rw[Nat.add_mul,Nat.mul_add];omega
theorem mul_shape {B:Nat} (hB:2<=B) {la lb i A:Nat} (hi:i<la) (hA:A<B^(i+lb)):fd B (la+lb) A=(fd B i A++fd B lb (A/B^i))++(0:Int)::List.replicate (la - 1 - i) 0:=by
 rw[show la+lb=(i+lb)+(1+(la - 1 - i)) by omega,fd_pad hA,fd_split,show 1+(la - 1 - i)=(la - 1 - i)+1 by omega,List.replicate_succ]
theorem mul_next {B:Nat} (hB:2<=B) {la lb i A R:Nat} (hi:i<la) (hA:A+B^i*R<B^(i+1+lb)):(fd B i A++fd B lb (A/B^i+R))++(((A/B^i+R)/B^lb:Nat):Int)::List.replicate (la - 1 - i) 0=fd B (la+lb) (A+B^i*R):=by
 have hp:0<B^i:=Nat.pow_pos (by omega);have e1:(A+B^i*R)/B^i=A/B^i+R:=Nat.add_mul_div_left _ _ hp;have e2:fd B i (A+B^i*R)=fd B i A:=by rw[<-fd_mod,Nat.add_mul_mod_self_left,fd_mod]
 have e3:(A/B^i+R)/B^lb<B:=by
  rw[<-e1,Nat.div_div_eq_div_mul,<-Nat.pow_add,Nat.div_lt_iff_lt_mul (Nat.pow_pos (by omega)),Nat.mul_comm B (B^(i+lb)),<-Nat.pow_succ];rw[show(i+lb).succ=i+1+lb by omega];exact hA
 rw[show la+lb=(i+1+lb)+(la - 1 - i) by omega,fd_pad hA,show i+1+lb=i+(lb+1) by omega,fd_split,e1,e2,fd_snoc,Nat.mod_eq_of_lt e3];simp only[List.append_assoc,List.singleton_append]
theorem mul_bound {B:Nat} (hB:2<=B) {xs ys:List Int} (hx:dig B xs=true) (hy:dig B ys=true) (i:Nat) (hi:i<=xs.length):dval B (xs.take i)*dval B ys<B^(i+ys.length):=by
 have h1:=dval_lt (dig_take hx i);have h2:=dval_lt hy;have h3:(xs.take i).length=i:=by simp;omega
 rw[h3]at h1;rw[Nat.pow_add];exact Nat.mul_lt_mul'' h1 h2
theorem gcd_step (a b:Nat):Nat.gcd b (a%b)=Nat.gcd a b:=by rw[Nat.gcd_comm b,<-Nat.gcd_rec,Nat.gcd_comm]
end Go.Cm
end
section
set_option linter.unusedVariables false
namespace Go.Cm
open Go.Lib (decDigits)
theorem ba_app (a b:List UInt8):(⟨a.toArray⟩:ByteArray)++⟨b.toArray⟩=⟨(a++b).toArray⟩:=by
 apply ByteArray.ext;simp
theorem ba_sz (a:List UInt8):(⟨a.toArray⟩:ByteArray).size=a.length:=by simp [ByteArray.size]
def decPad:Nat->Nat->List UInt8
 |0,_=>[]
 |k+1,r=>decPad k (r/10)++[UInt8.ofNat (48+r%10)]
theorem decPad_len (k r:Nat):(decPad k r).length=k:=by
 induction k generalizing r with
 |zero=>rfl
 |succ k ih=>simp [decPad,ih]
theorem dec_small {u:Nat} (h:u<10):decDigits u=[UInt8.ofNat (48+u)]:=by rw[decDigits,dif_pos h]
theorem dec_big {u:Nat} (h:¬u<10):decDigits u=decDigits (u/10)++[UInt8.ofNat (48+u%10)]:=by rw[decDigits,dif_neg h]
theorem dec_split (k q r:Nat) (hq:0<q) (hr:r<10^k):decDigits (q*10^k+r)=decDigits q++decPad k r:=by
 induction k generalizing r with
 |zero=>
  have:r=0:=by simpa using hr
  subst this;simp [decPad]
 |succ k ih=>
  have hp:1<=10^k:=Nat.pow_pos (by decide);have h1:1*10^k<=q*10^k:=Nat.mul_le_mul_right _ hq;rw[Nat.pow_succ,<-Nat.mul_assoc]at*;rw[dec_big (by omega),show(q*10^k*10+r)/10=q*10^k+r/10 by omega,show(q*10^k*10+r)%10=r%10 by omega,ih (r/10) (by omega),decPad,List.append_assoc]
theorem decPad_zero (k:Nat):decPad k 0=List.replicate k 48:=by
 induction k with
 |zero=>rfl
 |succ k ih=>rw[decPad,Nat.zero_div,ih,List.replicate_succ'];rfl
theorem dec_pad (k r:Nat) (hk:0<k) (hr:r<10^k):List.replicate (k - (decDigits r).length) 48++decDigits r=decPad k r/\(decDigits r).length<=k:=by
 induction k generalizing r with
 |zero=>omega
 |succ k ih=>
  by_cases h:r<10
  ·rw[dec_small h,decPad,Nat.div_eq_of_lt h,Nat.mod_eq_of_lt h,decPad_zero];simp
  ·have hk0:0<k:=by
    rcases Nat.eq_zero_or_pos k with g|g
    ·subst g;omega
    ·exact g
   rw[Nat.pow_succ]at hr;obtain⟨h1,h2⟩:=ih (r/10) hk0 (by omega);rw[dec_big h,decPad,<-h1,List.length_append,List.length_singleton,List.append_assoc];refine⟨?_,by omega⟩;congr 2;omega
theorem dec_len {k r:Nat} (hk:0<k) (hr:r<10^k):(decDigits r).length<=k:=(dec_pad k r hk hr).2
theorem repeatL_one (n:Nat):Go.Lib.repeatL [48] n=List.replicate n 48:=by
 induction n with
 |zero=>rfl
 |succ n ih=>rw[Go.Lib.repeatL,ih,List.replicate_succ];rfl
def textParts (n:Nat):List (List UInt8):=if h:n=0 then []else if n/1000000000=0 then [decDigits n]else decPad 9 (n%1000000000)::textParts (n/1000000000)
termination_by n
decreasing_by omega
theorem textParts_zero:textParts 0=[]:=by rw[textParts,dif_pos rfl]
theorem textParts_one {n:Nat} (h:n≠0) (h1:n/1000000000=0):textParts n=[decDigits n]:=by rw[textParts,dif_neg h,if_pos h1]
theorem textParts_more {n:Nat} (h1:n/1000000000≠0):textParts n=decPad 9 (n%1000000000)::textParts (n/1000000000):=by rw[textParts,dif_neg (by omega),if_neg h1]
theorem textParts_all {n:Nat} (h:n≠0):(textParts n).reverse.flatten=decDigits n:=by
 induction n using Nat.strongRecOn with
 |ind n ih=>
  by_cases h1:n/1000000000=0
  ·rw[textParts_one h h1];simp
  ·rw[textParts_more h1,List.reverse_cons,List.flatten_append,ih _ (by omega) h1];have e:n=n/1000000000*10^9+n%1000000000:=by
    rw[show(10:Nat)^9=1000000000 by decide];omega
   conv=>rhs;rw[e]
   rw[dec_split 9 _ _ (by omega) (by rw[show(10:Nat)^9=1000000000 by decide];omega)];simp
theorem textParts_len (n:Nat):(textParts n).length=(nd B10 n).length:=by
 induction n using Nat.strongRecOn with
 |ind n ih=>
  by_cases h:n=0
  ·subst h;rw[textParts_zero,nd_zero B10_le];rfl
  ·rw[nd_pos B10_le h,List.length_cons]
   by_cases h1:n/1000000000=0
   ·rw[textParts_one h h1,show n/B10=n/1000000000 from rfl,h1,nd_zero B10_le];rfl
   ·rw[textParts_more h1,List.length_cons,ih _ (by omega)]
theorem dec_inj {m n:Nat} (h:decDigits m=decDigits n):m=n:=by
 induction m using Nat.strongRecOn generalizing n with
 |ind m ih=>
  have hne:∀u,decDigits u≠ []:=by
   intro u;rw[decDigits];split<;>simp
  by_cases h1:m<10
  ·by_cases h2:n<10
   ·rw[dec_small h1,dec_small h2]at h;have h3:=congrArg (fun l:List UInt8=>(l.headD 0).toNat) h;simp only[List.headD_cons,UInt8.toNat_ofNat']at h3;omega
   ·rw[dec_small h1,dec_big h2]at h;have h3:=congrArg List.length h;have h4:(decDigits (n/10)).length≠0:=fun e=>hne _ (List.eq_nil_of_length_eq_zero e)
    simp at h3;exact absurd h3 (hne _)
  ·by_cases h2:n<10
   ·rw[dec_big h1,dec_small h2]at h;have h3:=congrArg List.length h;simp at h3;exact absurd h3 (hne _)
   ·rw[dec_big h1,dec_big h2]at h;have h3:=List.append_inj' h rfl;have h4:=ih (m/10) (by omega) h3.1;have h5:=congrArg (fun l:List UInt8=>(l.headD 0).toNat) h3.2;simp only[List.headD_cons,UInt8.toNat_ofNat']at h5;omega
theorem nine_nat (z:Nat):((z:Int)+1000000000).toNat=1*10^9+z:=by rw[show(10:Nat)^9=1000000000 by decide];omega
theorem nine_dec (z:Nat) (hzl:z<10^9):decDigits (1*10^9+z)=49::decPad 9 z:=by
 rw[dec_split 9 1 z (by decide) hzl,dec_small (by decide),show UInt8.ofNat (48+1)=49 by decide,List.singleton_append]
theorem nine_all (z:Nat) (y:Int) (hz:y=(z:Int)) (hzl:z<10^9):decDigits (y+1000000000).toNat=49::decPad 9 z:=by
 rw[hz,nine_nat,nine_dec z hzl]
end Go.Cm
end
section
set_option linter.unusedVariables false
namespace Go.Cm
def dvF (a:Nat) (c:UInt8):Nat:=10*a+(c.toNat - 48)
def dv (l:List UInt8):Nat:=l.foldl dvF 0
def isD (c:UInt8):Bool:=decide (48<=c.toNat/\c.toNat<=57)
def allD (l:List UInt8):Bool:=l.all isD
theorem dv_from (l:List UInt8) (a:Nat):l.foldl dvF a=a*10^l.length+dv l:=by
 induction l generalizing a with
 |nil=>simp [dv]
 |cons c r ih=>
  unfold dv;rw[List.foldl_cons,List.foldl_cons,ih,ih (dvF 0 c),List.length_cons,Nat.pow_succ];unfold dvF;rw[Nat.add_mul,Nat.mul_zero,Nat.zero_add,Nat.mul_comm (10^r.length) 10,<-Nat.mul_assoc,Nat.mul_comm 10 a];omega
theorem dv_append (a b:List UInt8):dv (a++b)=dv a*10^b.length+dv b:=by
 unfold dv;rw[List.foldl_append,dv_from b];rfl
theorem dv_snoc (l:List UInt8) (c:UInt8):dv (l++[c])=10*dv l+(c.toNat - 48):=by
 unfold dv;rw[List.foldl_append];rfl
theorem allD_append (a b:List UInt8):allD (a++b)=(allD a&&allD b):=by simp [allD]
theorem allD_take {l:List UInt8} (h:allD l=true) (n:Nat):allD (l.take n)=true:=by
 have:=List.take_append_drop n l;rw[<-this,allD_append,Bool.and_eq_true]at h;exact h.1
theorem allD_drop {l:List UInt8} (h:allD l=true) (n:Nat):allD (l.drop n)=true:=by
 have:=List.take_append_drop n l;rw[<-this,allD_append,Bool.and_eq_true]at h;exact h.2
theorem allD_get {l:List UInt8} (h:allD l=true) {i:Nat} (hi:i<l.length):48<=l[i].toNat/\l[i].toNat<=57:=by
 have:=List.all_eq_true.1 h _ (List.getElem_mem hi);exact of_decide_eq_true this
theorem dv_lt {l:List UInt8} (h:allD l=true):dv l<10^l.length:=by
 induction l with
 |nil=>simp [dv]
 |cons c r ih=>
  have hc:isD c=true/\allD r=true:=by
   unfold allD at h;rw[List.all_cons,Bool.and_eq_true]at h;exact h
  have h1:=of_decide_eq_true hc.1;have h2:=ih hc.2;have h3:=dv_append [c] r;rw[List.singleton_append]at h3;have h4:dv [c]=c.toNat - 48:=by simp [dv,dvF]
  rw[h3,h4,List.length_cons,Nat.pow_succ];have h5:(c.toNat - 48)*10^r.length<=9*10^r.length:=Nat.mul_le_mul_right _ (by omega);omega
def okR (l:List UInt8):Bool:=decide (l≠ [])&&(decide (l.length<=200)&&(decide (l.length=1)||decide (l.head? ≠some 48)))
def okN (l:List UInt8):Bool:=allD l&&okR l
theorem ext_list (t:ByteArray) (a b:Nat):(ByteArray.extract t a b).data.toList=(t.data.toList.take b).drop a:=by
 rw[ByteArray.data_extract];simp [List.extract_eq_take_drop,List.drop_take]
theorem parse_dv (l:List UInt8) (h:allD l=true) (hn:l≠ []) (hl:l.length<=9):Go.Lib.parseUintB 64 l= .ok (dv l):=by
 unfold Go.Lib.parseUintB;rw[if_neg hn];have key:∀(l:List UInt8) (a:Nat),allD l=true->a*10^l.length+dv l<=1000000000000000000->Go.Lib.parseUintM (2^64 - 1) a l= .ok (a*10^l.length+dv l):=by
  intro l
  induction l with
  |nil=>intro a _ _;simp [Go.Lib.parseUintM,dv]
  |cons c r ih=>
   intro a hd hb;have hc:isD c=true/\allD r=true:=by
    unfold allD at hd;rw[List.all_cons,Bool.and_eq_true]at hd;exact hd
   have h1:=of_decide_eq_true hc.1;have h3:=dv_append [c] r;rw[List.singleton_append]at h3;have h4:dv [c]=c.toNat - 48:=by simp [dv,dvF]
   have e:a*10^(c::r).length+dv (c::r)=(a*10+(c.toNat - 48))*10^r.length+dv r:=by
    rw[h3,h4,List.length_cons,Nat.pow_succ,Nat.add_mul,Nat.mul_assoc,Nat.mul_comm 10];omega
   rw[e]at hb ⊢;have hp:1<=10^r.length:=Nat.pow_pos (by decide);have h5:(a*10+(c.toNat - 48))*1<=(a*10+(c.toNat - 48))*10^r.length:=Nat.mul_le_mul_left _ hp;rw[<-ih _ hc.2 hb];rw[Go.Lib.parseUintM];rw[if_pos h1,if_neg (by omega),if_neg (by omega)]
 have h1:=dv_lt h;have h2:10^l.length<=10^9:=Nat.pow_le_pow_right (by decide) hl;have h3:(10:Nat)^9=1000000000:=by decide
 have:=key l 0 h (by omega);rw[Nat.zero_mul,Nat.zero_add]at this;exact this
end Go.Cm
end
section
set_option linter.unusedVariables false
namespace Go.Cm
abbrev Q3:=Bool×(Nat×Nat)
def rp (B:Nat) (r:Q3):Bool×(List Int×List Int):=(r.1,(nd B r.2.1,nd B r.2.2))
def rv (B:Nat) (x:Bool×(List Int×List Int)):Q3:=(x.1,(dval B x.2.1,dval B x.2.2))
def rok (B N:Nat) (x:Bool×(List Int×List Int)):Bool:=canon B x.2.1&&(canon B x.2.2&&(decide (x.2.1.length<=N)&&decide (x.2.2.length<=N)))
theorem rok_iff {B N:Nat} {x:Bool×(List Int×List Int)} :rok B N x=true↔canon B x.2.1=true/\canon B x.2.2=true/\x.2.1.length<=N/\x.2.2.length<=N:=by
 unfold rok;simp only[Bool.and_eq_true,decide_eq_true_iff]
theorem rv_rp {B:Nat} (hB:2<=B) (r:Q3):rv B (rp B r)=r:=by
 unfold rv rp;dsimp only;rw[dval_nd hB,dval_nd hB]
theorem rok_rp {B N:Nat} (hB:2<=B) (r:Q3) (h1:r.2.1<B^N) (h2:r.2.2<B^N):rok B N (rp B r)=true:=by
 rw[rok_iff];exact⟨canon_nd hB _,canon_nd hB _,(nd_len hB _ _).2 h1,(nd_len hB _ _).2 h2⟩
theorem rp_rv {B N:Nat} {x:Bool×(List Int×List Int)} (h:rok B N x=true):rp B (rv B x)=x:=by
 rw[rok_iff]at h;unfold rp rv;dsimp only;rw[canon_eq h.1,canon_eq h.2.1]
def lowN (neg:Bool) (p q:Nat):Q3:=(neg&&decide (p≠0),(p/Nat.gcd p q,q/Nat.gcd p q))
def ratTx (r:Q3):List UInt8:=(if r.1=true then [45]else [])++(Go.Lib.decDigits r.2.1++(if r.2.2=1 then []else 47::Go.Lib.decDigits r.2.2))
def fitN (r:Q3):Bool:=decide ((Go.Lib.decDigits r.2.1).length<=200)&&decide ((Go.Lib.decDigits r.2.2).length<=200)
def giveN (r:Q3):ByteArray×Bool:=if fitN r=true then(⟨(ratTx r).toArray⟩,true)else(bs [],false)
theorem nd_one {B:Nat} (hB:2<=B):nd B 1=[1]:=by
 rw[nd_pos hB (by omega),Nat.mod_eq_of_lt (by omega),Nat.div_eq_of_lt (by omega),nd_zero hB];rfl
theorem canon_nil {B:Nat} (hB:2<=B) {xs:List Int} (h:canon B xs=true):xs=[]↔dval B xs=0:=by
 constructor
 ·intro e;subst e;rfl
 ·intro e;have:=canon_eq h;rw[e,nd_zero hB]at this;exact this.symm
theorem canon_one {B:Nat} (hB:2<=B):canon B [1]=true:=by rw[<-nd_one hB];exact canon_nd hB 1
theorem dval_one {B:Nat} :dval B [1]=1:=by simp [dval]
theorem nd_shorter' {B:Nat} (hB:2<=B) {m n:Nat} (h:m<=n):(nd B m).length<=(nd B n).length:=by
 rw[nd_len hB];exact Nat.lt_of_le_of_lt h ((nd_len hB n _).1 (Nat.le_refl _))
theorem canon_len {B:Nat} (hB:2<=B) {xs:List Int} (h:canon B xs=true):(nd B (dval B xs)).length=xs.length:=by rw[canon_eq h]
theorem gcd_len {B:Nat} (hB:2<=B) {xs ys:List Int} (hx:canon B xs=true) (hy:canon B ys=true) (hn:dval B ys≠0):(nd B (Nat.gcd (dval B xs) (dval B ys))).length<=ys.length:=by
 rw[<-canon_len hB hy];exact nd_shorter' hB (Nat.le_of_dvd (by omega) (Nat.gcd_dvd_right _ _))
theorem cmpN_zero {a b:Nat} :cmpN a b=0↔a=b:=by
 unfold cmpN;split
 ·simp;omega
 ·split
  ·simp;omega
  ·simp;omega
theorem cmpN_gt {a b:Nat} :cmpN a b>0↔b<a:=by
 unfold cmpN;split
 ·simp;omega
 ·split
  ·simp;omega
  ·simp;omega
theorem cmpN_range (a b:Nat): -1<=cmpN a b/\cmpN a b<=1:=by
 unfold cmpN;split
 ·omega
 ·split<;>omega
theorem dec_len10 {n k:Nat} (h:n<(10^10)^k):(Go.Lib.decDigits n).length<=10*k+1:=by
 rw[<-Nat.pow_mul]at h;exact dec_len (by omega) (Nat.lt_of_lt_of_le h (Nat.pow_le_pow_right (by decide) (by omega)))
theorem canon_dec {B:Nat} (hB:B<=10^10) {xs:List Int} (h:canon B xs=true):(Go.Lib.decDigits (dval B xs)).length<=10*xs.length+1:=dec_len10 (Nat.lt_of_lt_of_le (dval_lt (canon_dig h)) (Nat.pow_le_pow_left hB _))
theorem dec_one (n:Nat):(Go.Lib.decDigits n=[49])↔n=1:=by
 constructor
 ·intro h;apply dec_inj;rw[h,dec_small (by decide)];rfl
 ·intro h;subst h;rw[dec_small (by decide)];rfl
def glue (p:List UInt8):List (List UInt8)->List (List UInt8)
 | []=>[p]
 |q::qs=>(p++q)::qs
def pieces (c:UInt8):List UInt8->List (List UInt8)
 | []=>[[]]
 |b::r=>if b=c then []::pieces c r else glue [b] (pieces c r)
theorem pieces_ne (c:UInt8) (l:List UInt8):pieces c l≠ []:=by
 cases l with
 |nil=>simp [pieces]
 |cons b r=>
  unfold pieces;split
  ·simp
  ·cases pieces c r<;>simp [glue]
theorem glue_nil {q:List (List UInt8)} (h:q≠ []):glue [] q=q:=by
 cases q with
 |nil=>exact(h rfl).elim
 |cons a b=>rfl
theorem glue_glue (p q:List UInt8) (r:List (List UInt8)):glue p (glue q r)=glue (p++q) r:=by
 cases r<;>simp [glue]
theorem pieces_len (c:UInt8) (l:List UInt8):∀p∈pieces c l,p.length<=l.length:=by
 induction l with
 |nil=>intro p hp;simp [pieces]at hp;subst hp;simp
 |cons b r ih=>
  intro p hp;unfold pieces at hp;split at hp
  ·rcases List.mem_cons.1 hp with rfl|hp
   ·simp
   ·have:=ih p hp;simp;omega
  ·cases hr:pieces c r with
   |nil=>exact(pieces_ne c r hr).elim
   |cons q qs=>
    rw[hr]at hp ih;rcases List.mem_cons.1 hp with rfl|hp
    ·have:=ih q (by simp);simp;omega
    ·have:=ih p (by simp [hp]);simp;omega
def cutP (c:UInt8):List UInt8->List UInt8×List UInt8×Bool
 | []=>([],[],false)
 |b::r=>if b=c then([],r,true)else(b::(cutP c r).1,(cutP c r).2.1,(cutP c r).2.2)
theorem cutP_cons (c b:UInt8) (r:List UInt8):cutP c (b::r)=if b=c then([],r,true)else(b::(cutP c r).1,(cutP c r).2.1,(cutP c r).2.2):=rfl
theorem pieces_cons (c b:UInt8) (r:List UInt8):pieces c (b::r)=if b=c then []::pieces c r else glue [b] (pieces c r):=rfl
theorem cutP_index (c:UInt8) (l:List UInt8):((cutP c l).2.2=false->Go.Lib.index l [c]= -1/\(cutP c l).1=l/\(cutP c l).2.1=[])/\((cutP c l).2.2=true->∃n:Nat,Go.Lib.index l [c]=(n:Int)/\(cutP c l).1=l.take n/\(cutP c l).2.1=l.drop (n+1)):=by
 induction l with
 |nil=>exact⟨fun _=>⟨rfl,rfl,rfl⟩,fun h=>by cases h⟩
 |cons b r ih=>
  rw[cutP_cons,Go.Lib.index]
  by_cases h:b=c
  ·subst h;rw[if_pos rfl];refine⟨fun q=>(by cases q),fun _=>⟨0,?_,rfl,rfl⟩⟩;rw[if_pos (by simp)];rfl
  ·rw[if_neg h];have hp:¬([c].isPrefixOf (b::r)=true):=by
    simp;exact fun q=>h q.symm
   rw[if_neg hp];dsimp only;constructor
   ·intro q;have i:=ih.1 q;rw[i.1,i.2.1,i.2.2];exact⟨rfl,rfl,rfl⟩
   ·intro q;obtain⟨n,i1,i2,i3⟩:=ih.2 q;refine⟨n+1,?_,?_,?_⟩
    ·have hne:¬(((n:Int)== -1)=true):=by
      rw[beq_iff_eq];omega
     rw[i1,if_neg hne];omega
    ·rw[i2];rfl
    ·rw[i3];rfl
theorem cut_cutP (c:UInt8) (l:List UInt8):Go.Lib.cut l [c]=cutP c l:=by
 have h:=cutP_index c l;unfold Go.Lib.cut;generalize cutP c l=p at*;obtain⟨x,y,f⟩:=p;cases f
 ·obtain⟨i1,i2,i3⟩:=h.1 rfl;dsimp only at i2 i3;rw[i1,if_neg (by decide),i2,i3]
 ·obtain⟨n,i1,i2,i3⟩:=h.2 rfl;dsimp only at i2 i3;rw[i1,if_pos (by omega),i2,i3];simp
theorem pieces_cutP (c:UInt8) (l:List UInt8):pieces c l=if(cutP c l).2.2=true then(cutP c l).1::pieces c (cutP c l).2.1 else [(cutP c l).1]:=by
 induction l with
 |nil=>rfl
 |cons b r ih=>
  rw[pieces_cons,cutP_cons]
  by_cases h:b=c
  ·rw[if_pos h,if_pos h,if_pos rfl]
  ·rw[if_neg h,if_neg h,ih];dsimp only;cases(cutP c r).2.2
   ·rfl
   ·rfl
theorem cutP_allD {l:List UInt8} (h:allD l=true):(cutP 47 l).2.2=false:=by
 induction l with
 |nil=>rfl
 |cons b r ih=>
  unfold allD at h;rw[List.all_cons,Bool.and_eq_true]at h;have h1:=of_decide_eq_true h.1;unfold cutP;rw[if_neg (fun e=>by subst e;exact absurd h1.1 (by decide))];exact ih h.2
def noQ:Q3×Bool:=((false,(0,0)),false)
def rdBody (neg:Bool) (c:List UInt8×List UInt8×Bool):Q3×Bool:=
 if okN c.1=true/\¬(neg=true/\dv c.1=0)then
  (if c.2.2=true then(if okN c.2.1=true/\1<dv c.2.1/\Nat.gcd (dv c.1) (dv c.2.1)=1 then((neg,(dv c.1,dv c.2.1)),true)else noQ)else((neg,(dv c.1,1)),true))
 else noQ
def rdRat (l:List UInt8):Q3×Bool:=if l.head? =some 45 then rdBody true (cutP 47 l.tail)else rdBody false (cutP 47 l)
theorem okN_allD {l:List UInt8} (h:okN l=true):allD l=true/\l.length<=200:=by
 unfold okN okR at h;simp only[Bool.and_eq_true,decide_eq_true_iff]at h;exact⟨h.1,h.2.2.1⟩
theorem okN_lt {l:List UInt8} (h:okN l=true):dv l<10^200:=Nat.lt_of_lt_of_le (dv_lt (okN_allD h).1) (Nat.pow_le_pow_right (by decide) (okN_allD h).2)
theorem nd_len200 {B n:Nat} (hB:10<=B) (h:n<10^200):(nd B n).length<=200:=by
 rw[nd_len (by omega)];exact Nat.lt_of_lt_of_le h (Nat.pow_le_pow_left hB _)
def qok (r:Q3):Bool:=decide (0<r.2.2)&&(!r.1||decide (r.2.1≠0))
theorem qok_iff {r:Q3} :qok r=true↔0<r.2.2/\(r.1=true->r.2.1≠0):=by
 unfold qok;obtain⟨n,p,q⟩:=r;cases n<;>simp
theorem rdBody_ok (neg:Bool) (c:List UInt8×List UInt8×Bool) (h:(rdBody neg c).2=true):qok (rdBody neg c).1=true/\(rdBody neg c).1.2.1<10^200/\(rdBody neg c).1.2.2<10^200:=by
 unfold rdBody at*
 by_cases h1:okN c.1=true/\¬(neg=true/\dv c.1=0)
 ·rw[if_pos h1]at h ⊢;have hp:=okN_lt h1.1
  by_cases h2:c.2.2=true
  ·rw[if_pos h2]at h ⊢
   by_cases h3:okN c.2.1=true/\1<dv c.2.1/\Nat.gcd (dv c.1) (dv c.2.1)=1
   ·rw[if_pos h3];refine⟨qok_iff.2 ⟨by show 0<dv c.2.1;omega,fun q e=>h1.2 ⟨q,e⟩⟩,hp,okN_lt h3.1⟩
   ·rw[if_neg h3]at h;cases h
  ·rw[if_neg h2];refine⟨qok_iff.2 ⟨Nat.one_pos,fun q e=>h1.2 ⟨q,e⟩⟩,hp,?_⟩;show 1<10^200;exact Nat.one_lt_pow (by decide) (by decide)
 ·rw[if_neg h1]at h;cases h
theorem rdRat_ok (l:List UInt8) (h:(rdRat l).2=true):qok (rdRat l).1=true/\(rdRat l).1.2.1<10^200/\(rdRat l).1.2.2<10^200:=by
 unfold rdRat at*;split at h
 ·rename_i hc;rw[if_pos hc];exact rdBody_ok _ _ h
 ·rename_i hc;rw[if_neg hc];exact rdBody_ok _ _ h
def cmpQ (x y:Q3):Int:=if x.1=y.1 then(if x.1=true then -(cmpN (x.2.1*y.2.2) (y.2.1*x.2.2))else cmpN (x.2.1*y.2.2) (y.2.1*x.2.2))else(if x.1=true then -1 else 1)
theorem cmpN_swap (a b:Nat):cmpN b a= -(cmpN a b):=by
 unfold cmpN
 by_cases h1:a<b
 ·rw[if_pos h1,if_neg (by omega),if_pos h1];rfl
 ·rw[if_neg h1]
  by_cases h2:b<a
  ·rw[if_pos h2,if_neg h1,if_pos h2]
  ·rw[if_neg h2,if_neg h2,if_neg h1];rfl
end Go.Cm
end
section
set_option linter.unusedVariables false
namespace Go.Cm
def low (r:Q3):Prop:=0<r.2.2/\(r.1=true->r.2.1≠0)/\Nat.gcd r.2.1 r.2.2=1
theorem low_qok {r:Q3} (h:low r):qok r=true:=qok_iff.2 ⟨h.1,h.2.1⟩
theorem lowN_low (neg:Bool) {p q:Nat} (hq:0<q):low (lowN neg p q):=by
 have hg:0<Nat.gcd p q:=Nat.gcd_pos_of_pos_right _ hq;unfold low lowN;dsimp only;refine⟨Nat.div_pos (Nat.le_of_dvd hq (Nat.gcd_dvd_right _ _)) hg,?_,Nat.coprime_div_gcd_div_gcd hg⟩;intro h;simp only[Bool.and_eq_true,decide_eq_true_iff]at h;have:=Nat.div_pos (Nat.le_of_dvd (by omega) (Nat.gcd_dvd_left p q)) hg;omega
theorem lowN_scale (neg:Bool) {p q k:Nat} (hk:0<k):lowN neg (k*p) (k*q)=lowN neg p q:=by
 unfold lowN;rw[Nat.gcd_mul_left,Nat.mul_div_mul_left _ _ hk,Nat.mul_div_mul_left _ _ hk];congr 2;rw[decide_eq_decide];constructor
 ·intro h e;rw[e,Nat.mul_zero]at h;exact h rfl
 ·intro h;exact Nat.mul_ne_zero (by omega) h
theorem lowN_own {neg:Bool} {p q:Nat} (h1:neg=true->p≠0) (h2:Nat.gcd p q=1):lowN neg p q=(neg,(p,q)):=by
 unfold lowN;rw[h2,Nat.div_one,Nat.div_one];congr 1;cases neg
 ·rfl
 ·rw[decide_eq_true (h1 rfl)];rfl
theorem low_zero {r:Q3} (h:low r) (h0:r.2.1=0):r=(false,(0,1)):=by
 obtain⟨n,p,q⟩:=r;obtain⟨h1,h2,h3⟩:=h;dsimp only at*;subst h0;rw[Nat.gcd_zero_left]at h3;subst h3;cases n
 ·rfl
 ·exact absurd rfl (h2 rfl)
def addQ (x y:Q3):Q3:=
 if x.1=y.1 then lowN x.1 (x.2.1*y.2.2+y.2.1*x.2.2) (x.2.2*y.2.2)
 else if y.2.1*x.2.2<=x.2.1*y.2.2 then lowN x.1 (x.2.1*y.2.2 - y.2.1*x.2.2) (x.2.2*y.2.2)
 else lowN y.1 (y.2.1*x.2.2 - x.2.1*y.2.2) (x.2.2*y.2.2)
def mulQ (x y:Q3):Q3:=lowN (x.1 != y.1) (x.2.1*y.2.1) (x.2.2*y.2.2)
def overQ (x y:Q3):Q3:=lowN (x.1 != y.1) (x.2.1*y.2.2) (x.2.2*y.2.1)
def oppQ (x:Q3):Q3:=(!x.1&&decide (x.2.1≠0),x.2)
theorem addQ_low (x y:Q3) (hx:low x) (hy:low y):low (addQ x y):=by
 have hq:0<x.2.2*y.2.2:=Nat.mul_pos hx.1 hy.1;unfold addQ;split
 ·exact lowN_low _ hq
 ·split<;>exact lowN_low _ hq
theorem mulQ_low (x y:Q3) (hx:low x) (hy:low y):low (mulQ x y):=lowN_low _ (Nat.mul_pos hx.1 hy.1)
theorem addQ_zero_left (x y:Q3) (hx:low x) (hy:low y) (h0:x.2.1=0):addQ x y=y:=by
 rw[low_zero hx h0];obtain⟨n,p,q⟩:=y;obtain⟨h1,h2,h3⟩:=hy;unfold addQ;dsimp only at*;rw[Nat.zero_mul,Nat.one_mul,Nat.mul_one,Nat.zero_add];cases n
 ·rw[if_pos rfl,lowN_own (fun q=>by cases q) h3]
 ·have:=h2 rfl;rw[if_neg (by decide),if_neg (by omega),Nat.sub_zero,lowN_own h2 h3]
theorem addQ_zero_right (x y:Q3) (hx:low x) (hy:low y) (h0:y.2.1=0):addQ x y=x:=by
 rw[low_zero hy h0];obtain⟨n,p,q⟩:=x;obtain⟨h1,h2,h3⟩:=hx;unfold addQ;dsimp only at*;rw[Nat.zero_mul,Nat.mul_one,Nat.mul_one,Nat.add_zero,Nat.sub_zero,Nat.zero_sub];cases n
 ·rw[if_pos rfl,lowN_own h2 h3]
 ·rw[if_neg (by decide),if_pos (by omega),lowN_own h2 h3]
theorem addQ_same (x y:Q3) (hx:low x) (h:x.2.2=y.2.2):addQ x y=if x.1=y.1 then lowN x.1 (x.2.1+y.2.1) x.2.2 else if y.2.1<=x.2.1 then lowN x.1 (x.2.1 - y.2.1) x.2.2 else lowN y.1 (y.2.1 - x.2.1) x.2.2:=by
 have hq:=hx.1;unfold addQ;rw[<-h,<-Nat.add_mul,<-Nat.sub_mul,<-Nat.sub_mul,Nat.mul_comm (x.2.1+y.2.1),Nat.mul_comm (x.2.1 - y.2.1),Nat.mul_comm (y.2.1 - x.2.1),lowN_scale _ hq,lowN_scale _ hq,lowN_scale _ hq];have hle:y.2.1*x.2.2<=x.2.1*x.2.2↔y.2.1<=x.2.1:=Nat.mul_le_mul_right_iff hq
 by_cases h1:x.1=y.1
 ·rw[if_pos h1,if_pos h1]
 ·rw[if_neg h1,if_neg h1]
  by_cases h2:y.2.1<=x.2.1
  ·rw[if_pos h2,if_pos (hle.2 h2)]
  ·rw[if_neg h2,if_neg (fun q=>h2 (hle.1 q))]
theorem rdBody_low (neg:Bool) (c:List UInt8×List UInt8×Bool) (h:(rdBody neg c).2=true):low (rdBody neg c).1:=by
 unfold rdBody at*
 by_cases h1:okN c.1=true/\¬(neg=true/\dv c.1=0)
 ·rw[if_pos h1]at h ⊢
  by_cases h2:c.2.2=true
  ·rw[if_pos h2]at h ⊢
   by_cases h3:okN c.2.1=true/\1<dv c.2.1/\Nat.gcd (dv c.1) (dv c.2.1)=1
   ·rw[if_pos h3];exact⟨by show 0<dv c.2.1;omega,fun q e=>h1.2 ⟨q,e⟩,h3.2.2⟩
   ·rw[if_neg h3]at h;cases h
  ·rw[if_neg h2];exact⟨Nat.one_pos,fun q e=>h1.2 ⟨q,e⟩,Nat.gcd_one_right _⟩
 ·rw[if_neg h1]at h;cases h
theorem rdRat_low (l:List UInt8) (h:(rdRat l).2=true):low (rdRat l).1:=by
 unfold rdRat at*;split at h
 ·rename_i hc;rw[if_pos hc];exact rdBody_low _ _ h
 ·rename_i hc;rw[if_neg hc];exact rdBody_low _ _ h
def below (n:Nat) (r:Q3):Prop:=r.2.1<10^n/\r.2.2<10^n
theorem below_mono {m n:Nat} (h:m<=n) {r:Q3} (hr:below m r):below n r:=
 ⟨Nat.lt_of_lt_of_le hr.1 (Nat.pow_le_pow_right (by decide) h),Nat.lt_of_lt_of_le hr.2 (Nat.pow_le_pow_right (by decide) h)⟩
theorem below_rok {B n:Nat} (hB:10<=B) {r:Q3} (h:below n r):rok B n (rp B r)=true:=
 rok_rp (by omega) r (Nat.lt_of_lt_of_le h.1 (Nat.pow_le_pow_left hB _)) (Nat.lt_of_lt_of_le h.2 (Nat.pow_le_pow_left hB _))
theorem lowN_below (neg:Bool) {p q n:Nat} (hp:p<10^n) (hq:q<10^n):below n (lowN neg p q):=
 ⟨Nat.lt_of_le_of_lt (Nat.div_le_self _ _) hp,Nat.lt_of_le_of_lt (Nat.div_le_self _ _) hq⟩
theorem mul_lt_pow {a b m n:Nat} (ha:a<10^m) (hb:b<10^n):a*b<10^(m+n):=by
 rw[Nat.pow_add];exact Nat.mul_lt_mul'' ha hb
theorem addQ_below {x y:Q3} {m n:Nat} (hx:below m x) (hy:below n y):below (m+n+1) (addQ x y):=by
 have h1:=mul_lt_pow hx.1 hy.2;have h2:=mul_lt_pow hy.1 hx.2;have h3:=mul_lt_pow hx.2 hy.2;rw[Nat.add_comm n m]at h2;have hp:10^(m+n+1)=10*10^(m+n):=by rw[Nat.pow_succ,Nat.mul_comm]
 unfold addQ;split
 ·exact lowN_below _ (by omega) (by omega)
 ·split
  ·exact lowN_below _ (by omega) (by omega)
  ·exact lowN_below _ (by omega) (by omega)
end Go.Cm
end
section
set_option linter.unusedVariables false
namespace Go.Cm
def lowb (B N:Nat) (x:Bool×(List Int×List Int)):Bool:=rok B N x&&(qok (rv B x)&&decide (Nat.gcd (rv B x).2.1 (rv B x).2.2=1))
theorem lowb_iff {B N:Nat} {x:Bool×(List Int×List Int)} :lowb B N x=true↔rok B N x=true/\low (rv B x):=by
 unfold lowb low;rw[Bool.and_eq_true,Bool.and_eq_true,qok_iff,decide_eq_true_iff];constructor
 ·rintro ⟨h1,⟨h2,h3⟩,h4⟩
  exact⟨h1,h2,h3,h4⟩
 ·rintro ⟨h1,h2,h3,h4⟩
  exact⟨h1,⟨h2,h3⟩,h4⟩
def rdAll (ls:List ByteArray):List Q3×Bool:=if ls.length<=300/\(ls.all fun s=>(rdRat s.data.toList).2)=true then(ls.map fun s=>(rdRat s.data.toList).1,true)else([],false)
theorem rdAll_ok {ls:List ByteArray} (h:(rdAll ls).2=true):(rdAll ls).1.length=ls.length/\ls.length<=300/\∀r∈(rdAll ls).1,low r/\below 200 r:=by
 unfold rdAll at*
 by_cases hc:ls.length<=300/\(ls.all fun s=>(rdRat s.data.toList).2)=true
 ·rw[if_pos hc];refine⟨by simp,hc.1,fun r hr=> ?_⟩;obtain⟨s,hs,rfl⟩:=List.mem_map.1 hr;have hok:=List.all_eq_true.1 hc.2 s hs;exact⟨rdRat_low _ hok,(rdRat_ok _ hok).2⟩
 ·rw[if_neg hc]at h;cases h
def zeroQ:Q3:=(false,(0,1))
def oneQ:Q3:=(false,(1,1))
theorem zeroQ_low:low zeroQ:=⟨Nat.one_pos,fun h=>(by cases h),rfl⟩
theorem oneQ_low:low oneQ:=⟨Nat.one_pos,fun h=>(by cases h),rfl⟩
theorem ten_pow_pos (n:Nat):0<10^n:=Nat.pow_pos (by decide)
theorem one_lt_ten {n:Nat} (h:0<n):1<10^n:=Nat.one_lt_pow (by omega) (by decide)
theorem zeroQ_below {n:Nat} (h:0<n):below n zeroQ:=⟨ten_pow_pos n,one_lt_ten h⟩
theorem oneQ_below {n:Nat} (h:0<n):below n oneQ:=⟨one_lt_ten h,one_lt_ten h⟩
def sumQ (xs:List Q3):Q3:=xs.foldl addQ zeroQ
theorem sumQ_snoc (xs:List Q3) (x:Q3):sumQ (xs++[x])=addQ (sumQ xs) x:=by
 unfold sumQ;rw[List.foldl_append];rfl
theorem sumQ_low (m:Nat):∀xs:List Q3,xs.length=m->(∀r∈xs,low r)->low (sumQ xs):=by
 induction m with
 |zero=>
  intro xs h _;rw[List.eq_nil_of_length_eq_zero h];exact zeroQ_low
 |succ m ih=>
  intro xs h hl;have hne:xs≠ []:=fun e=>by rw[e]at h;cases h
  rw[<-List.dropLast_concat_getLast hne,sumQ_snoc];exact addQ_low _ _ (ih _ (by simp;omega) (fun r hr=>hl r ((List.dropLast_sublist xs).subset hr))) (hl _ (List.getLast_mem hne))
theorem sumQ_below (k m:Nat):∀xs:List Q3,xs.length=m->(∀r∈xs,below k r)->below ((k+1)*m+1) (sumQ xs):=by
 induction m with
 |zero=>
  intro xs h _;rw[List.eq_nil_of_length_eq_zero h];exact zeroQ_below (by omega)
 |succ m ih=>
  intro xs h hl;have hne:xs≠ []:=fun e=>by rw[e]at h;cases h
  rw[<-List.dropLast_concat_getLast hne,sumQ_snoc];have h1:=ih xs.dropLast (by simp;omega) (fun r hr=>hl r ((List.dropLast_sublist xs).subset hr));have h2:=hl _ (List.getLast_mem hne);have:=addQ_below h1 h2;rw[show(k+1)*m+1+k+1=(k+1)*(m+1)+1 by rw[Nat.mul_succ];omega]at this;exact this
theorem takeUp_fd {B:Nat} (hB:2<=B) {xs ys:List Int} (hx:dig B xs=true) (hy:dig B ys=true) (hl:ys.length<=xs.length) (hv:dval B ys<=dval B xs):(takeUp B 1 xs ys xs.length).1=fd B xs.length (dval B xs - dval B ys):=by
 obtain⟨h1,h2,h3,h4,h5⟩:=takeUp_ok (t:=1) hB hx hy xs.length;rw[List.take_length,List.take_of_length_le hl,Nat.mul_one]at h3;have hlt:=dval_lt h1;rw[h2]at hlt;have h0:(takeUp B 1 xs ys xs.length).2.1+(takeUp B 1 xs ys xs.length).2.2=0:=by
  rcases Nat.eq_zero_or_pos ((takeUp B 1 xs ys xs.length).2.1+(takeUp B 1 xs ys xs.length).2.2)with e|e
  ·exact e
  ·have:B^xs.length*1<=B^xs.length*((takeUp B 1 xs ys xs.length).2.1+(takeUp B 1 xs ys xs.length).2.2):=Nat.mul_le_mul_left _ e;omega
 rw[h0,Nat.mul_zero,Nat.add_zero]at h3;exact fd_eq hB h1 h2 (by omega)
theorem takeUp_one {B:Nat} (hB:2<=B) {xs ys:List Int} (hy:dig B ys=true) (i:Nat):(takeUp B 1 xs ys i).2.1=0/\takeUp B 1 xs ys (i+1)=((takeUp B 1 xs ys i).1++[(xs.getD i 0 - ys.getD i 0 - ((takeUp B 1 xs ys i).2.2:Int))%(B:Int)],0,if xs.getD i 0 - ys.getD i 0 - ((takeUp B 1 xs ys i).2.2:Int)<0 then 1 else 0):=by
 have hc:∀j,(takeUp B 1 xs ys j).2.1=0:=by
  intro j
  induction j with
  |zero=>rfl
  |succ j ih=>
   have gy:=dig_getD (B:=B) (by omega) hy j;show((takeUp B 1 xs ys j).2.1+1*(ys.getD j 0).toNat)/B=0;rw[ih,Nat.zero_add,Nat.one_mul];exact Nat.div_eq_of_lt (by omega)
 have gy:=dig_getD (B:=B) (by omega) hy i;refine⟨hc i,?_⟩;rw[takeUp];rw[hc i,Nat.zero_add,Nat.one_mul,Nat.mod_eq_of_lt (show(ys.getD i 0).toNat<B by omega),Nat.div_eq_of_lt (show(ys.getD i 0).toNat<B by omega),Int.toNat_of_nonneg gy.1]
end Go.Cm
end
section
set_option linter.unusedVariables false
namespace Go.Cm
theorem lowN_val (neg:Bool) {p q:Nat} (hq:0<q):(lowN neg p q).2.1*q=p*(lowN neg p q).2.2:=by
 unfold lowN;dsimp only;obtain⟨a,ha⟩:=Nat.gcd_dvd_left p q;obtain⟨b,hb⟩:=Nat.gcd_dvd_right p q;have hg:0<Nat.gcd p q:=Nat.gcd_pos_of_pos_right _ hq;generalize Nat.gcd p q=g at*;subst ha;subst hb;rw[Nat.mul_div_cancel_left _ hg,Nat.mul_div_cancel_left _ hg]
 ac_rfl
def sgnQ (n:Bool) (p:Nat):Int:=if p=0 then 0 else if n=true then -1 else 1
theorem sgnQ_zero {n:Bool} {p:Nat} :sgnQ n p=0↔p=0:=by
 unfold sgnQ;split
 ·simp_all
 ·split<;>simp_all
def wholeQ (n:Int):Q3:=(decide (n<0),(n.natAbs,1))
theorem nd_mul_len {B:Nat} (hB:2<=B) (p q:Nat):(nd B (p*q)).length<=(nd B p).length+(nd B q).length:=by
 rw[nd_len hB,Nat.pow_add];exact Nat.mul_lt_mul'' ((nd_len hB p _).1 (Nat.le_refl _)) ((nd_len hB q _).1 (Nat.le_refl _))
theorem nd_add_len {B:Nat} (hB:2<=B) (p q:Nat):(nd B (p+q)).length<=max (nd B p).length (nd B q).length+1:=by
 rw[nd_len hB];have h1:=(nd_len hB p _).1 (Nat.le_refl _);have h2:=(nd_len hB q _).1 (Nat.le_refl _);have h3:B^(nd B p).length<=B^(max (nd B p).length (nd B q).length):=Nat.pow_le_pow_right (by omega) (by omega);have h4:B^(nd B q).length<=B^(max (nd B p).length (nd B q).length):=Nat.pow_le_pow_right (by omega) (by omega);have h5:B^(max (nd B p).length (nd B q).length)*2<=B^(max (nd B p).length (nd B q).length)*B:=Nat.mul_le_mul_left _ hB;rw[Nat.pow_succ];omega
theorem nd_sub_len {B:Nat} (hB:2<=B) (p q:Nat):(nd B (p - q)).length<=(nd B p).length:=nd_shorter' hB (Nat.sub_le _ _)
theorem nd_ne {B:Nat} (hB:2<=B) {p:Nat} (h:p≠0):nd B p≠ []:=by
 rw[nd_pos hB h];simp
theorem rok_nd {B N:Nat} {x:Bool×(List Int×List Int)} (h:rok B N x=true):∃n p q,x=(n,(nd B p,nd B q))/\(nd B p).length<=N/\(nd B q).length<=N:=by
 rw[rok_iff]at h;obtain⟨n,a,b⟩:=x;obtain⟨h1,h2,h3,h4⟩:=h;refine⟨n,dval B a,dval B b,?_,?_,?_⟩
 ·rw[canon_eq h1,canon_eq h2]
 ·rw[canon_eq h1];exact h3
 ·rw[canon_eq h2];exact h4
theorem rv_nd {B:Nat} (hB:2<=B) (n:Bool) (p q:Nat):rv B (n,(nd B p,nd B q))=(n,(p,q)):=by
 unfold rv;dsimp only;rw[dval_nd hB,dval_nd hB]
end Go.Cm
end
section
set_option linter.unusedVariables false
namespace Go.Cm
theorem below_rok9 {B N n:Nat} (hB:10^9<=B) {r:Q3} (h:below n r) (hn:n/9+1<=N):rok B N (rp B r)=true:=by
 have h0:(10:Nat)^9=1000000000:=by decide
 have h1:10^n<=B^N:=by
  have h2:10^n<=10^(9*(n/9+1)):=Nat.pow_le_pow_right (by decide) (by omega);have h3:10^(9*(n/9+1))=(10^9)^(n/9+1):=Nat.pow_mul 10 9 _;have h4:(10^9)^(n/9+1)<=B^(n/9+1):=Nat.pow_le_pow_left hB _;have h5:B^(n/9+1)<=B^N:=Nat.pow_le_pow_right (by omega) hn;rw[h3]at h2;exact Nat.le_trans h2 (Nat.le_trans h4 h5)
 exact rok_rp (by omega) r (Nat.lt_of_lt_of_le h.1 h1) (Nat.lt_of_lt_of_le h.2 h1)
theorem lowb_rp9 {B N n:Nat} (hB:10^9<=B) {r:Q3} (h:low r) (hb:below n r) (hn:n/9+1<=N):lowb B N (rp B r)=true:=by
 have h0:(10:Nat)^9=1000000000:=by decide
 rw[lowb_iff,rv_rp (by omega)];exact⟨below_rok9 hB hb hn,h⟩
def goodQ (n:Nat) (qs:List Q3):Prop:=(∀r∈qs,low r/\below n r)/\(n+1)*qs.length+1<=350000000
def goodL (B:Nat) (xs:List (Bool×(List Int×List Int))):Prop:=∃(qs:List Q3) (n:Nat),xs=qs.map (rp B)/\goodQ n qs
theorem map_rv {B:Nat} (hB:2<=B) (qs:List Q3):(qs.map (rp B)).map (rv B)=qs:=by
 rw[List.map_map];have:(rv B ∘ rp B)=id:=by
  funext r;exact rv_rp hB r
 rw[this,List.map_id]
theorem good_len {n:Nat} {qs:List Q3} (h:goodQ n qs):qs.length<=350000000:=by
 have h1:=h.2;have h2:1*qs.length<=(n+1)*qs.length:=Nat.mul_le_mul_right _ (by omega);omega
theorem good_n {n:Nat} {qs:List Q3} (h:goodQ n qs) (hl:0<qs.length):n<=350000000:=by
 have h1:=h.2;have h2:(n+1)*1<=(n+1)*qs.length:=Nat.mul_le_mul_left _ hl;omega
theorem good_get {B n:Nat} (hB:10^9<=B) {qs:List Q3} (h:goodQ n qs) {i:Nat} (hi:i<qs.length):lowb B 40000000 (rp B qs[i])=true:=by
 have hm:=h.1 _ (List.getElem_mem hi);have:=good_n h (by omega);exact lowb_rp9 hB hm.1 hm.2 (by omega)
theorem good_take {n:Nat} {qs:List Q3} (h:goodQ n qs) (i:Nat):low (sumQ (qs.take i))/\below 350000000 (sumQ (qs.take i)):=by
 have hs:∀r∈qs.take i,low r/\below n r:=fun r hr=>h.1 r (List.mem_of_mem_take hr)
 refine⟨sumQ_low _ _ rfl (fun r hr=>(hs r hr).1),?_⟩;have h1:=sumQ_below n _ (qs.take i) rfl (fun r hr=>(hs r hr).2);refine below_mono ?_ h1;have h2:=h.2;have h3:(n+1)*(qs.take i).length<=(n+1)*qs.length:=Nat.mul_le_mul_left _ (by rw[List.length_take];omega);omega
theorem sumQ_take {qs:List Q3} {i:Nat} (hi:i<qs.length):addQ (sumQ (qs.take i)) qs[i]=sumQ (qs.take (i+1)):=by
 rw[List.take_add_one,List.getElem?_eq_getElem hi,Option.toList_some,sumQ_snoc]
theorem good_sum {n:Nat} {qs:List Q3} (h:goodQ n qs):low (sumQ qs)/\below 350000000 (sumQ qs):=by
 have:=good_take h qs.length;rw[List.take_length]at this;exact this
theorem good_rok {B n:Nat} (hB:10^9<=B) {qs:List Q3} (h:goodQ n qs):rok B 40000000 (rp B (sumQ qs))=true:=below_rok9 hB (good_sum h).2 (by decide)
theorem rdAll_good {ls:List ByteArray} (h:(rdAll ls).2=true):goodQ 200 (rdAll ls).1:=by
 obtain⟨h1,h2,h3⟩:=rdAll_ok h;refine⟨h3,?_⟩;rw[h1];omega
theorem rdAll_goodL {B:Nat} {ls:List ByteArray} (h:(rdAll ls).2=true):goodL B ((rdAll ls).1.map (rp B)):=⟨_,200,rfl,rdAll_good h⟩
def okT (ls:List ByteArray):Bool:=ls.all fun s=>decide (s.size<=1000000)
theorem okT_get {ls:List ByteArray} (h:okT ls=true) {i:Nat} (hi:i<ls.length):ls[i].size<=1000000:=of_decide_eq_true (List.all_eq_true.1 h _ (List.getElem_mem hi))
def isOneQ (x:Q3):Bool:=decide (x.1=false/\x.2.1=x.2.2)
def ixM:List (Bool×(List Int×List Int))->Int
 | []=> -1
 |x::r=>if x.1=true then 0 else if ixM r<0 then -1 else ixM r+1
theorem ixM_cons (x:Bool×(List Int×List Int)) (r:List (Bool×(List Int×List Int))):ixM (x::r)=if x.1=true then 0 else if ixM r<0 then -1 else ixM r+1:=rfl
theorem ixM_any (xs:List (Bool×(List Int×List Int))):decide (0<=ixM xs)=xs.any fun x=>x.1:=by
 induction xs with
 |nil=>rfl
 |cons x r ih=>
  rw[List.any_cons,<-ih,ixM_cons];cases hx:x.1
  ·rw[if_neg (by decide),Bool.false_or,decide_eq_decide];split<;>omega
  ·rw[if_pos rfl];rfl
def isW (qs:List Q3):Bool:= !(qs.any fun r=>r.1)&&isOneQ (sumQ qs)
theorem any_rp (B:Nat) (qs:List Q3):((qs.map (rp B)).any fun x=>x.1)=qs.any fun r=>r.1:=by
 rw[List.any_map];rfl
def wtAll (ls:List ByteArray):List Q3×Bool:=if((rdAll ls).2&&isW (rdAll ls).1)=true then rdAll ls else([],false)
theorem wtAll_ok {ls:List ByteArray} (h:(wtAll ls).2=true):(rdAll ls).2=true/\isW (rdAll ls).1=true/\wtAll ls=rdAll ls:=by
 unfold wtAll at*
 by_cases hc:((rdAll ls).2&&isW (rdAll ls).1)=true
 ·rw[if_pos hc];simp only[Bool.and_eq_true]at hc;exact⟨hc.1,hc.2,rfl⟩
 ·rw[if_neg hc]at h;cases h
theorem wtAll_snd (ls:List ByteArray):(wtAll ls).2=((rdAll ls).2&&isW (rdAll ls).1):=by
 unfold wtAll
 by_cases hc:((rdAll ls).2&&isW (rdAll ls).1)=true
 ·rw[if_pos hc,hc];simp only[Bool.and_eq_true]at hc;exact hc.1
 ·rw[if_neg hc];cases h:((rdAll ls).2&&isW (rdAll ls).1)
  ·rfl
  ·exact absurd h hc
end Go.Cm
end
section
set_option linter.unusedVariables false
namespace Go.Cm
def sgZ (neg:Bool) (p:Nat):Int:=if neg=true then -(p:Int)else p
def qv (r:Q3):Rat:=mkRat (sgZ r.1 r.2.1) r.2.2
theorem sgZ_mul (neg:Bool) (p k:Nat):sgZ neg p*(k:Int)=sgZ neg (p*k):=by
 unfold sgZ;cases neg
 ·simp
 ·simp [Int.neg_mul]
theorem sgZ_zero (neg:Bool):sgZ neg 0=0:=by cases neg<;>rfl
theorem qv_lowN (neg:Bool) {p q:Nat} (hq:0<q):qv (lowN neg p q)=mkRat (sgZ neg p) q:=by
 have h1:=lowN_val neg (p:=p) hq;have h2:=(lowN_low neg (p:=p) hq).1;unfold qv;rw[Rat.mkRat_eq_iff (by omega) (by omega)];have hs:(lowN neg p q).1=(neg&&decide (p≠0)):=rfl;rw[sgZ_mul,h1,hs]
 by_cases hp:p=0
 ·subst hp;rw[Nat.zero_mul,sgZ_zero,sgZ_zero,Int.zero_mul]
 ·rw[decide_eq_true hp,Bool.and_true,<-sgZ_mul]
theorem qv_low {r:Q3} (h:low r):(qv r).num=sgZ r.1 r.2.1/\(qv r).den=r.2.2:=by
 have hc:Nat.Coprime (sgZ r.1 r.2.1).natAbs r.2.2:=by
  have:(sgZ r.1 r.2.1).natAbs=r.2.1:=by unfold sgZ;split<;>omega
  rw[this];exact h.2.2
 have hz:r.2.2≠0:=by have:=h.1;omega
 have e:qv r=⟨sgZ r.1 r.2.1,r.2.2,hz,hc⟩:=(Rat.mk_eq_mkRat _ _ hz hc).symm;rw[e];exact⟨rfl,rfl⟩
theorem qv_inj {x y:Q3} (hx:low x) (hy:low y) (h:qv x=qv y):x=y:=by
 obtain⟨a1,a2⟩:=qv_low hx;obtain⟨b1,b2⟩:=qv_low hy;rw[h,b1]at a1;rw[h,b2]at a2;obtain⟨n1,p1,q1⟩:=x;obtain⟨n2,p2,q2⟩:=y;obtain⟨_,h1,_⟩:=hx;obtain⟨_,h2,_⟩:=hy;dsimp only at*;subst a2;unfold sgZ at a1;cases n1<;>cases n2
 ·simp at a1;rw[Int.ofNat.inj a1]
 ·have:=h2 rfl;simp at a1;omega
 ·have:=h1 rfl;simp at a1;omega
 ·simp at a1;rw[Int.ofNat.inj a1]
theorem qv_iff {x y:Q3} (hx:low x) (hy:low y):qv x=qv y↔x=y:=⟨qv_inj hx hy,fun h=>by rw[h]⟩
theorem sgZ_xor (a b:Bool) (p q:Nat):sgZ (a != b) (p*q)=sgZ a p*sgZ b q:=by
 unfold sgZ;cases a<;>cases b<;>simp [Int.neg_mul,Int.mul_neg]
theorem qv_mul {x y:Q3} (hx:low x) (hy:low y):qv (mulQ x y)=qv x*qv y:=by
 have hq:0<x.2.2*y.2.2:=Nat.mul_pos hx.1 hy.1;show _=mkRat _ _*mkRat _ _;rw[Rat.mkRat_mul_mkRat];unfold mulQ;rw[qv_lowN _ hq,sgZ_xor]
theorem qv_zeroQ:qv zeroQ=0:=by rfl
theorem qv_oneQ:qv oneQ=1:=by rfl
theorem cmpQ_lt {x y:Q3} (hx:low x) (hy:low y):(cmpQ x y<0↔qv x<qv y)/\(cmpQ x y=0↔qv x=qv y):=by
 obtain⟨a1,a2⟩:=qv_low hx;obtain⟨b1,b2⟩:=qv_low hy;have e0:∀a b:Nat,(cmpN a b<0↔a<b)/\(cmpN a b=0↔a=b):=fun a b=>by
  unfold cmpN;split
  ·constructor<;>constructor<;>intros<;>omega
  ·split
   ·constructor<;>constructor<;>intros<;>omega
   ·constructor<;>constructor<;>intros<;>omega
 rw[Rat.lt_iff,Rat.eq_iff_mul_eq_mul,a1,a2,b1,b2,sgZ_mul,sgZ_mul];have hx0:=hx.2.1;have hy0:=hy.2.1;have p1:=hx.1;have p2:=hy.1;unfold cmpQ sgZ;have f:=e0 (x.2.1*y.2.2) (y.2.1*x.2.2);have g:=cmpN_swap (x.2.1*y.2.2) (y.2.1*x.2.2);have gt:cmpN (x.2.1*y.2.2) (y.2.1*x.2.2)>0↔y.2.1*x.2.2<x.2.1*y.2.2:=cmpN_gt;cases hx1:x.1<;>cases hy1:y.1
 ·simp only[if_true,Bool.false_eq_true,if_false];constructor<;>constructor<;>intros<;>omega
 ·have k1:=hy0 hy1;have:0<y.2.1*x.2.2:=Nat.mul_pos (by omega) p1;simp only[Bool.false_eq_true,if_false,if_true];constructor<;>constructor<;>intros<;>omega
 ·have k1:=hx0 hx1;have:0<x.2.1*y.2.2:=Nat.mul_pos (by omega) p2;simp only[if_true,Bool.true_eq_false,Bool.false_eq_true,if_false];constructor<;>constructor<;>intros<;>omega
 ·simp only[if_true];constructor<;>constructor<;>intros<;>omega
def posQ (x:Q3):Bool:= !x.1&&decide (x.2.1≠0)
end Go.Cm
end
section
set_option linter.unusedVariables false
namespace Go.Cm
def ratesB (qs:List Q3):Bool:=qs.all posQ
theorem sgnQ_npos (r:Q3):decide (sgnQ r.1 r.2.1<=0)= !posQ r:=by
 unfold posQ sgnQ
 by_cases h:r.2.1=0
 ·simp [h]
 ·cases r.1<;>simp [h]
def ixF (f:Q3->Bool):List Q3->Int
 | []=> -1
 |x::r=>if f x=true then 0 else if ixF f r<0 then -1 else ixF f r+1
theorem ixF_cons (f:Q3->Bool) (x:Q3) (r:List Q3):ixF f (x::r)=if f x=true then 0 else if ixF f r<0 then -1 else ixF f r+1:=rfl
theorem ixF_ge (f:Q3->Bool) (qs:List Q3): -1<=ixF f qs:=by
 induction qs with
 |nil=>exact Int.le_refl _
 |cons x r ih=>
  rw[ixF_cons];split
  ·omega
  ·split<;>omega
theorem ixF_any (f:Q3->Bool) (qs:List Q3):decide (0<=ixF f qs)=qs.any f:=by
 induction qs with
 |nil=>rfl
 |cons x r ih=>
  rw[List.any_cons,<-ih,ixF_cons];cases hx:f x
  ·rw[if_neg (by decide),Bool.false_or,decide_eq_decide];split<;>omega
  ·rw[if_pos rfl];rfl
theorem not_ratesB (qs:List Q3):(qs.any fun r=> !posQ r)= !ratesB qs:=by
 unfold ratesB;rw[List.not_all_eq_any_not]
def cmpZ (x y:Q3):Int:=if sgnQ x.1 x.2.1≠sgnQ y.1 y.2.1 then sgnQ x.1 x.2.1 - sgnQ y.1 y.2.1 else if x.1=true then -(cmpN (x.2.1*y.2.2) (y.2.1*x.2.2))else cmpN (x.2.1*y.2.2) (y.2.1*x.2.2)
theorem cmpZ_ok {x y:Q3} (hx:low x) (hy:low y):(cmpZ x y<0↔qv x<qv y)/\(cmpZ x y=0↔qv x=qv y):=by
 have h:=cmpQ_lt hx hy;have hx0:=hx.2.1;have hy0:=hy.2.1;have p1:=hx.1;have p2:=hy.1;have e0:∀a b:Nat,(cmpN a b<0↔a<b)/\(cmpN a b=0↔a=b):=fun a b=>by
  unfold cmpN;split
  ·constructor<;>constructor<;>intros<;>omega
  ·split
   ·constructor<;>constructor<;>intros<;>omega
   ·constructor<;>constructor<;>intros<;>omega
 have f:=e0 (x.2.1*y.2.2) (y.2.1*x.2.2);have gt:cmpN (x.2.1*y.2.2) (y.2.1*x.2.2)>0↔y.2.1*x.2.2<x.2.1*y.2.2:=cmpN_gt;have m1:x.2.1≠0->0<x.2.1*y.2.2:=fun e=>Nat.mul_pos (Nat.pos_of_ne_zero e) p2
 have m2:y.2.1≠0->0<y.2.1*x.2.2:=fun e=>Nat.mul_pos (Nat.pos_of_ne_zero e) p1
 have z1:x.2.1=0->x.2.1*y.2.2=0:=fun e=>by rw[e,Nat.zero_mul]
 have z2:y.2.1=0->y.2.1*x.2.2=0:=fun e=>by rw[e,Nat.zero_mul]
 rw[<-h.1,<-h.2];unfold cmpZ cmpQ sgnQ;generalize x.2.1*y.2.2=A at*;generalize y.2.1*x.2.2=C at*;cases hx1:x.1<;>cases hy1:y.1<;>by_cases a0:x.2.1=0<;>by_cases b0:y.2.1=0<;>
  (simp [a0,b0,hx1,hy1]at*)<;>first|omega|(constructor<;>first|omega|(constructor<;>intros<;>omega))
def giveL (qs:List Q3):List ByteArray×Bool:=if qs.all fitN=true then(qs.map fun r=>(giveN r).1,true)else([],false)
theorem range_snoc {α:Type} (f:Nat->α) (i:Nat):(List.range (i+1)).map f=(List.range i).map f++[f i]:=by
 rw[List.range_succ,List.map_append];rfl
theorem all_rok {B n:Nat} (hB:10^9<=B) (hn:n<=350000000) {qs:List Q3} (h:∀q∈qs,low q/\below n q):(qs.map (rp B)).all (rok B 40000000)=true:=by
 rw[List.all_eq_true];intro x hx;obtain⟨q,hq,rfl⟩:=List.mem_map.1 hx;exact below_rok9 hB (h q hq).2 (by omega)
theorem getD_rp (B:Nat) {us:List Q3} {i:Nat} (h:i<us.length):(us.map (rp B)).getD i (false,(([]:List Int),([]:List Int)))=rp B (us.getD i zeroQ):=by
 rw[List.getD_eq_getElem?_getD,List.getD_eq_getElem?_getD,List.getElem?_map,List.getElem?_eq_getElem h];rfl
theorem cmpZ_eq {x y:Q3} (hx:low x) (hy:low y):cmpZ x y=0↔x=y:=by rw[(cmpZ_ok hx hy).2,qv_iff hx hy]
def chQ (rows:List (List ByteArray)):List (List Q3)×Bool:=
 if decide (1<=rows.length)&&(decide (rows.length<=12)&&rows.all fun r=>decide (r.length=rows.length)&&(wtAll r).2)then(rows.map fun r=>(rdAll r).1,true)else([],false)
end Go.Cm
end
section
set_option linter.unusedVariables false
namespace Go.Cm
theorem nodup_dup:∀ {xs:List Nat},xs.Nodup->dup xs=false
 | [],_=>rfl
 |x::xs,h=>by
  rw[List.nodup_cons]at h;unfold dup;rw[nodup_dup h.2,Bool.or_false,List.any_eq_false];intro y hy e;exact h.1 (Nat.eq_of_beq_eq_true e▸hy)
theorem nodup_set:∀ {xs:List Nat} {v:Nat} (i:Nat),xs.Nodup->v∉xs->(xs.set i v).Nodup
 | [],_,_,_,_=>by simp
 |x::xs,v,0,h,hv=>by
  rw[List.nodup_cons]at h;rw[List.set_cons_zero,List.nodup_cons];exact⟨fun e=>hv (List.mem_cons_of_mem _ e),h.2⟩
 |x::xs,v,i+1,h,hv=>by
  rw[List.nodup_cons]at h;rw[List.set_cons_succ,List.nodup_cons];refine⟨fun e=> ?_,nodup_set i h.2 fun e=>hv (List.mem_cons_of_mem _ e)⟩;rcases List.mem_or_eq_of_mem_set e with e|e
  ·exact h.1 e
  ·exact hv (by rw[<-e];exact List.mem_cons_self ..)
theorem hd0_fst {α:Type} (m:List (List α×Nat)):(hd0 m).map (fun y=>y.1)=List.range m.length:=by
 apply List.ext_getElem
 ·simp [hd0]
 ·intro i h1 h2;simp [hd0]
theorem hd0_dup {α:Type} (m:List (List α×Nat)):dup ((hd0 m).map fun y=>y.1)=false:=by
 rw[hd0_fst];exact nodup_dup List.nodup_range
theorem hd0_dup_set {α:Type} (m:List (List α×Nat)) (i c:Nat):dup (((hd0 m).set i ((in0 m).length,c)).map fun y=>y.1)=false:=by
 rw[List.map_set,hd0_fst];apply nodup_dup;apply nodup_set i List.nodup_range;rw[in0_length];simp
theorem hd0_take {α:Type} (m:List (List α×Nat)) (n:Nat):seen (hd0 m) 0 n=hd0 (m.take n):=by
 unfold seen hd0;apply List.ext_getElem
 ·simp
 ·intro i h1 h2;simp
theorem hd0_at {α:Type} (m:List (List α×Nat)) {i:Nat} (h:i<m.length):(hd0 m).getD i (0,0)=(i,m[i].2):=by
 simp [hd0,List.getD_eq_getElem?_getD,h]
theorem in0_at {α:Type} (m:List (List α×Nat)) {i:Nat} (h:i<m.length):(in0 m).getD i []=m[i].1:=by
 simp [in0,List.getD_eq_getElem?_getD,h]
theorem nrm_hd0 {α:Type} (m:List (List α×Nat)):nrm (hd0 m) (in0 m)=m:=by
 unfold nrm;apply List.ext_getElem
 ·simp [hd0]
 ·intro i h1 h2;rw[List.getElem_map];simp [hd0,in0,List.getD_eq_getElem?_getD,h2]
theorem nrm_take {α:Type} (m:List (List α×Nat)) (n:Nat):nrm (hd0 (m.take n)) (in0 m)=m.take n:=by
 unfold nrm;apply List.ext_getElem
 ·simp [hd0]
 ·intro i h1 h2;rw[List.getElem_map];have h3:i<m.length:=by rw[List.length_take]at h2;omega
  simp [hd0,in0,List.getD_eq_getElem?_getD,h3]
theorem nrm_store {α:Type} (m:List (List α×Nat)) {i:Nat} (v:List α) (c:Nat):nrm ((hd0 m).set i ((in0 m).length,c)) (in0 m++[v])=m.set i (v,c):=by
 unfold nrm;apply List.ext_getElem
 ·simp [hd0]
 ·intro j h1 h2;rw[List.getElem_map,List.getElem_set,List.getElem_set];rw[List.length_set]at h2;split
  ·simp [List.getD_eq_getElem?_getD]
  ·simp [hd0,in0,List.getD_eq_getElem?_getD,List.getElem?_append,h2]
theorem nrm_write {α:Type} (m:List (List α×Nat)) {i:Nat} (h:i<m.length) (v:List α):nrm (hd0 m) ((in0 m).set i v)=m.set i (v,m[i].2):=by
 unfold nrm;apply List.ext_getElem
 ·simp [hd0]
 ·intro j h1 h2;rw[List.getElem_map,List.getElem_set];rw[List.length_set]at h2;split
  ·rename_i e;subst e;simp [hd0,in0,List.getD_eq_getElem?_getD,h2]
  ·rename_i e;simp [hd0,in0,List.getD_eq_getElem?_getD,h2,e]
def mp (B:Nat) (M:List (List Q3)):List (List (Bool×(List Int×List Int))):=M.map fun r=>r.map (rp B)
def mv (B:Nat) (m:List (List (Bool×(List Int×List Int)))):List (List Q3):=m.map fun r=>r.map (rv B)
theorem mv_mp {B:Nat} (hB:2<=B) (M:List (List Q3)):mv B (mp B M)=M:=by
 unfold mv mp;rw[List.map_map];have:((fun r=>List.map (rv B) r) ∘ fun r=>List.map (rp B) r)=(id:List Q3->List Q3):=by
  funext r;exact map_rv hB r
 rw[this,List.map_id]
def isM (M:List (List Q3)):Prop:=M.length<=12/\∀r∈M,r.length=M.length/\∀q∈r,q.1=false
def adj (M:List (List Q3)) (i j:Nat):Bool:=decide (((M.getD i []).getD j zeroQ).2.1≠0)
def stepB (a:Nat->Bool) (s:List Bool×List Nat) (j:Nat):List Bool×List Nat:=if a j=true/\s.1.getD j false=false then(s.1.set j true,s.2++[j])else s
def scanB (a:Nat->Bool) (n:Nat) (s:List Bool×List Nat):List Bool×List Nat:=(List.range n).foldl (stepB a) s
def bfs (A:Nat->Nat->Bool) (n:Nat):Nat->List Bool->List Nat->List Bool
 |0,sn,_=>sn
 |_+1,sn,[]=>sn
 |f+1,sn,i::r=>bfs A n f (scanB (A i) n (sn,r)).1 (scanB (A i) n (sn,r)).2
def reachB (A:Nat->Nat->Bool) (n s:Nat):List Bool:=bfs A n n ((List.replicate n false).set s true) [s]
def posF (o:Int):List Bool->List Int
 | []=>[]
 |b::r=>if b=true then o::posF (o+1) r else posF (o+1) r
theorem count_set:∀(sn:List Bool) (j:Nat),j<sn.length->sn.getD j false=false->(sn.set j true).count false+1=sn.count false
 | [],_,h,_=>by simp at h
 |b::r,0,_,h=>by
  simp at h;subst h;simp
 |b::r,j+1,h,h2=>by
  have:=count_set r j (by simpa using h) (by simpa using h2);rw[List.set_cons_succ,List.count_cons,List.count_cons];omega
structure Bok (n:Nat) (s:List Bool×List Nat):Prop where
 len:s.1.length=n
 lt:∀t∈s.2,t<n
theorem stepB_ok {n:Nat} {a:Nat->Bool} {s:List Bool×List Nat} {j:Nat} (hj:j<n) (h:Bok n s):Bok n (stepB a s j)/\(stepB a s j).2.length+(stepB a s j).1.count false=s.2.length+s.1.count false:=by
 unfold stepB;split
 ·rename_i hc;refine⟨⟨by simp [h.len],fun t ht=> ?_⟩,?_⟩
  ·rcases List.mem_append.1 ht with ht|ht
   ·exact h.lt t ht
   ·simp at ht;omega
  ·have:=count_set s.1 j (by rw[h.len];exact hj) hc.2;simp only[List.length_append,List.length_cons,List.length_nil];omega
 ·exact⟨h,rfl⟩
theorem foldB_ok {n:Nat} {a:Nat->Bool} {s:List Bool×List Nat} (h:Bok n s):∀k,k<=n->Bok n ((List.range k).foldl (stepB a) s)/\((List.range k).foldl (stepB a) s).2.length+((List.range k).foldl (stepB a) s).1.count false=s.2.length+s.1.count false
 |0,_=>⟨h,rfl⟩
 |k+1,hk=>by
  obtain⟨i1,i2⟩:=foldB_ok (a:=a) h k (by omega);rw[List.range_succ,List.foldl_append];obtain⟨j1,j2⟩:=stepB_ok (a:=a) (j:=k) (by omega) i1;exact⟨j1,by simp only[List.foldl_cons,List.foldl_nil];omega⟩
theorem fold_succ {α:Type} (f:α->Nat->α) (s:α) (k:Nat):(List.range (k+1)).foldl f s=f ((List.range k).foldl f s) k:=by rw[List.range_succ,List.foldl_append];rfl
theorem start_ok {n s:Nat} (h:s<n):Bok n ((List.replicate n false).set s true,[s])/\([s]:List Nat).length+((List.replicate n false).set s true).count false=n:=by
 refine⟨⟨by simp,fun t ht=>by simp at ht;omega⟩,?_⟩;have:=count_set (List.replicate n false) s (by simpa using h) (by simp [List.getD_eq_getElem?_getD,h]);rw[List.count_replicate]at this;simp at this ⊢;omega
def zs (l:List Nat):List Int:=l.map fun t:Nat=>(t:Int)
theorem mp_at {B:Nat} {M:List (List Q3)} {i:Nat} (h:i<M.length):(mp B M).getD i []=(M.getD i []).map (rp B):=by
 simp [mp,List.getD_eq_getElem?_getD,h]
theorem mp_len {B:Nat} {M:List (List Q3)} :(mp B M).length=M.length:=by simp [mp]
theorem isM_row {M:List (List Q3)} (h:isM M) {i:Nat} (hi:i<M.length):(M.getD i []).length=M.length/\∀q∈M.getD i [],q.1=false:=by
 have e:M.getD i []=M[i]:=by simp [List.getD_eq_getElem?_getD,hi]
 rw[e];exact h.2 _ (List.getElem_mem hi)
def spare:ByteArray:=bs [126,115,112,97,114,101,126]
def S.l_toStringS (x:((List ByteArray)×(Bool×Unit))):(Option (((List ByteArray)×Nat)×Unit)):=if x.1.length<=1000000 then some (tos spare x.2.1 x.1,())else none
def okRS (xs:List (List ByteArray)):Prop:=xs.length<=1000000/\∀x∈xs,x.length<=1000000
def spareR:List ByteArray×Nat:=([spare],1)
def tos2 (bare:Bool) (xs:List (List ByteArray)):List (List ByteArray×Nat)×Nat:=if bare=true/\xs=[]then([],0)else(xs.map (tos spare bare)++List.replicate (rb xs.length).toNat spareR,xs.length)
theorem tos2_take (bare:Bool) (xs:List (List ByteArray)):((tos2 bare xs).1.take (tos2 bare xs).2).map (fun y=>(y.1.take y.2).map (fun z=>z))=xs:=by
 unfold tos2;split
 ·rename_i h;rw[h.2];rfl
 ·simp only;rw[List.take_append_of_le_length (by simp),List.take_of_length_le (by simp),List.map_map];have:((fun y:List ByteArray×Nat=>(y.1.take y.2).map (fun z=>z)) ∘ tos spare bare)=id:=by
   funext y;simp [tos_take]
  rw[this,List.map_id]
open Classical in
noncomputable def S.l_toStringSS (x:((List (List ByteArray))×(Bool×Unit))):(Option (((List ((List ByteArray)×Nat))×Nat)×Unit)):=if okRS x.1 then some (tos2 x.2.1 x.1,())else none
def isCh (M:List (List Q3)):Prop:=1<=M.length/\isM M/\∀r∈M,(∀q∈r,low q/\below 200 q)/\isW r=true
theorem chQ_ok {u:List (List ByteArray)} (h:(chQ u).2=true):isCh (chQ u).1/\(chQ u).1.length=u.length:=by
 unfold chQ at*;split at h
 case isFalse=>cases h
 rename_i hc;rw[if_pos hc];simp only[Bool.and_eq_true,decide_eq_true_iff,List.all_eq_true]at hc;obtain⟨h1,h2,h3⟩:=hc;have hr:∀r∈u,(rdAll r).2=true/\isW (rdAll r).1=true/\r.length=u.length:=fun r hr=>by
  obtain⟨a,b⟩:=h3 r hr;obtain⟨w1,w2,_⟩:=wtAll_ok b;exact⟨w1,w2,a⟩
 refine⟨⟨by simpa using h1,⟨by simpa using h2,fun r hm=> ?_⟩,fun r hm=> ?_⟩,by simp⟩
 ·obtain⟨s,hs,rfl⟩:=List.mem_map.1 hm;obtain⟨a,b,c⟩:=hr s hs;refine⟨by rw[(rdAll_ok a).1,List.length_map,c],fun q hq=> ?_⟩;have:(!((rdAll s).1.any fun r=>r.1))=true:=by
   unfold isW at b;rw[Bool.and_eq_true]at b;exact b.1
  rw[Bool.not_eq_true',List.any_eq_false]at this;simpa using this q hq
 ·obtain⟨s,hs,rfl⟩:=List.mem_map.1 hm;obtain⟨a,b,c⟩:=hr s hs;exact⟨(rdAll_ok a).2.2,b⟩
def tab {α:Type} (n:Nat) (f:Nat->α):List α:=(List.range n).map f
theorem tab_len {α:Type} (n:Nat) (f:Nat->α):(tab n f).length=n:=by simp [tab]
theorem tab_get {α:Type} {n i:Nat} (f:Nat->α) (h:i<n):(tab n f)[i]'(by rw[tab_len];exact h)=f i:=by simp [tab]
theorem tab_getD {α:Type} {n i:Nat} (f:Nat->α) (d:α) (h:i<n):(tab n f).getD i d=f i:=by
 simp [tab,List.getD_eq_getElem?_getD,h]
theorem tab_congr {α:Type} {n:Nat} {f g:Nat->α} (h:∀i,i<n->f i=g i):tab n f=tab n g:=by
 unfold tab;apply List.map_congr_left;intro i hi;exact h i (List.mem_range.1 hi)
theorem tab_map {α β:Type} (n:Nat) (f:Nat->α) (g:α->β):(tab n f).map g=tab n fun i=>g (f i):=by
 unfold tab;rw[List.map_map];rfl
theorem tab_set {α:Type} {n i:Nat} (f:Nat->α) (v:α):(tab n f).set i v=tab n fun j=>if j=i then v else f j:=by
 apply List.ext_getElem
 ·simp [tab]
 ·intro j h1 h2;rw[tab_len]at h2;rw[List.getElem_set,tab_get _ h2]
  by_cases e:i=j
  ·rw[if_pos e,tab_get _ h2,if_pos e.symm]
  ·rw[if_neg e];simp only[tab_get _ h2];rw[if_neg (show ¬j=i from fun q=>e q.symm)]
theorem tab_succ {α:Type} (n:Nat) (f:Nat->α):tab (n+1) f=tab n f++[f n]:=range_snoc f n
theorem tab_mem {α:Type} {n:Nat} {f:Nat->α} {x:α} :x∈tab n f↔∃i,i<n/\f i=x:=by
 unfold tab;rw[List.mem_map];constructor
 ·rintro ⟨i,h,e⟩
  exact⟨i,List.mem_range.1 h,e⟩
 ·rintro ⟨i,h,e⟩
  exact⟨i,List.mem_range.2 h,e⟩
def clsStep (R:Nat->Nat->Bool) (n:Nat) (s:List Int×List Bool) (i:Nat):List Int×List Bool:=
 if 0<=s.1.getD i (-1)then s else(tab n fun j=>if(R i j&&R j i)=true then(s.2.length:Int)else s.1.getD j (-1),s.2++[(List.range n).all fun j=> !R i j||R j i])
def clsQ (R:Nat->Nat->Bool) (n:Nat):List Int×List Bool:=(List.range n).foldl (clsStep R n) (List.replicate n (-1),[])
def rcB (M:List (List Q3)) (i j:Nat):Bool:=(reachB (adj M) M.length i).getD j false
def clsM (M:List (List Q3)):List Int×List Bool:=clsQ (rcB M) M.length
def fl (c:Nat->Bool) (n:Nat):List Nat:=(List.range n).filter c
def ix (c:Nat->Bool) (j:Nat):Nat:=(fl c j).length
def goodS (B:Nat) (xs:List (Bool×(List Int×List Int))):Prop:=∃qs:List Q3,xs=qs.map (rp B)/\qs.length<=350000000/\(∀q∈qs,low q/\below 350000000 q)/\∀i,low (sumQ (qs.take i))/\below 350000000 (sumQ (qs.take i))
theorem goodL_S {B:Nat} {xs:List (Bool×(List Int×List Int))} (h:goodL B xs):goodS B xs:=by
 obtain⟨qs,n,rfl,hg⟩:=h;refine⟨qs,rfl,good_len hg,fun q hq=> ?_,fun i=>good_take hg i⟩;obtain⟨a,b⟩:=hg.1 q hq;exact⟨a,below_mono (good_n hg (List.length_pos_of_mem hq)) b⟩
end Go.Cm
end
