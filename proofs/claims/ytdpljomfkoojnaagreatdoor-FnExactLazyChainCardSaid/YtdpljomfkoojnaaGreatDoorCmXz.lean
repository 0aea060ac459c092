import Derived.Test.YtdpljomfkoojnaaGreatDoorCmQz
section
set_option linter.unusedVariables false
namespace Go.Cm
def sm:Nat->(Nat->Rat)->Rat
 |0,_=>0
 |n+1,f=>sm n f+f n
def hd (D H:Nat) (r:Q3):Prop:=low r/\0<D/\∃z:Int,qv r*(D:Rat)=(z:Rat)/\z.natAbs<=H
def mq (M:List (List Q3)):Nat->Nat->Q3:=fun i j=>(M.getD i []).getD j zeroQ
theorem ch_at {M:List (List Q3)} (h:isCh M) {i j:Nat} (hi:i<M.length) (hj:j<M.length):low (mq M i j)/\below 200 (mq M i j)/\(mq M i j).1=false:=by
 have e:M.getD i []=M[i]:=by simp [List.getD_eq_getElem?_getD,hi]
 obtain⟨_,h2,h3⟩:=h;obtain⟨h4,h5⟩:=h2.2 _ (List.getElem_mem hi);obtain⟨h6,_⟩:=h3 _ (List.getElem_mem hi);unfold mq;rw[e];have hj':j<M[i].length:=by omega
 have e2:M[i].getD j zeroQ=M[i][j]:=by simp [List.getD_eq_getElem?_getD,hj']
 rw[e2];exact⟨(h6 _ (List.getElem_mem hj')).1,(h6 _ (List.getElem_mem hj')).2,h5 _ (List.getElem_mem hj')⟩
end Go.Cm
end
section
set_option linter.unusedVariables false
namespace Go.Cm
def sw (k l i:Nat):Nat:=if i=k then l else if i=l then k else i
def pvF (p:Nat->Bool):Nat->Nat->Nat
 |0,i=>i
 |f+1,i=>if p i=true then i else pvF p f (i+1)
def pvt (a:Nat->Nat->Q3) (n k:Nat):Nat:=pvF (fun i=>decide ((a i k).2.1≠0)) (n - k) k
def elE (a:Nat->Nat->Q3) (k i j:Nat):Q3:=addQ (a i j) (oppQ (mulQ (overQ (a i k) (a k k)) (a k j)))
def elF (full:Bool) (a:Nat->Nat->Q3) (k:Nat):Nat->Nat->Q3:=fun i j=>
 if(k<i\/full=true/\i≠k)/\(a i k).2.1≠0/\k<=j then elE a k i j else a i j
def swQ (a:Nat->Nat->Q3) (k l:Nat):Nat->Nat->Q3:=fun i=>a (sw k l i)
def elim (full:Bool) (n:Nat) (a:Nat->Nat->Q3):Nat->Nat->Nat->Q3
 |0=>a
 |k+1=>elF full (swQ (elim full n a k) k (pvt (elim full n a k) n k)) k
def vals (a:Nat->Nat->Q3):Nat->Nat->Rat:=fun i j=>qv (a i j)
end Go.Cm
end
section
set_option linter.unusedVariables false
namespace Go.Cm
def eB (H m:Nat):Nat:=(12*(H*H))^m
def ext (n:Nat) (x:Nat->Rat):Nat->Rat:=fun j=>if j=n then -1 else x j
end Go.Cm
end
section
set_option linter.unusedVariables false
namespace Go.Cm
inductive Rch (A:Nat->Nat->Bool) (n s:Nat):Nat->Prop where
 |refl:Rch A n s s
 |step {i j:Nat} :Rch A n s i->i<n->j<n->A i j=true->Rch A n s j
theorem Rch.trans {A:Nat->Nat->Bool} {n s i j:Nat} (h:Rch A n s i) (k:Rch A n i j):Rch A n s j:=by
 induction k with
 |refl=>exact h
 |step _ a b c ih=>exact .step ih a b c
theorem Rch.lt {A:Nat->Nat->Bool} {n s i:Nat} (h:Rch A n s i) (hs:s<n):i<n:=by
 cases h with
 |refl=>exact hs
 |step _ _ b _=>exact b
end Go.Cm
end
section
set_option linter.unusedVariables false
namespace Go.Cm
def cut (m:Nat->Nat->Rat) (k:Nat):Nat->Nat->Rat:=fun i j=>m i j+m i k/sm k (m k)*m k j
end Go.Cm
end
section
set_option linter.unusedVariables false
namespace Go.Cm
def hB (c t:Nat):Nat:=10^(2^t*c - 2)
end Go.Cm
end
section
set_option linter.unusedVariables false
namespace Go.Cm
end Go.Cm
end
section
set_option linter.unusedVariables false
namespace Go.Cm
def subQ (M:List (List Q3)) (c:Nat->Bool):Nat->Nat->Q3:=fun a b=>mq M ((fl c M.length).getD a 0) ((fl c M.length).getD b 0)
end Go.Cm
end
section
set_option linter.unusedVariables false
namespace Go.Cm
def hA (M:List (List Q3)) (tu:Bool) (c:Nat->Bool) (g:Nat->Q3):Nat->Nat->Q3:=fun a b=>
 if b=(fl c M.length).length then g ((fl c M.length).getD a 0)
 else if a=b then addQ (oppQ (if tu=true then subQ M c b a else subQ M c a b)) oneQ else oppQ (if tu=true then subQ M c b a else subQ M c a b)
end Go.Cm
end
section
set_option linter.unusedVariables false
namespace Go.Cm
def om (B r c:Nat) (a:Nat->Nat->Q3):List (List (Bool×(List Int×List Int))×Nat):=tab r fun i=>((tab c (a i)).map (rp B),c)
theorem om_len (B r c:Nat) (a:Nat->Nat->Q3):(om B r c a).length=r:=tab_len _ _
theorem om_congr {B r c:Nat} {a b:Nat->Nat->Q3} (h:∀i,i<r->∀j,j<c->a i j=b i j):om B r c a=om B r c b:=by
 unfold om;apply tab_congr;intro i hi;rw[tab_congr fun j hj=>h i hi j hj]
theorem om_at {B r c:Nat} {a:Nat->Nat->Q3} {i:Nat} (h:i<(om B r c a).length):(om B r c a)[i]=((tab c (a i)).map (rp B),c):=by
 exact tab_get _ (by rw[om_len]at h;exact h)
theorem om_hd {B r c:Nat} {a:Nat->Nat->Q3} {i:Nat} (h:i<r):(hd0 (om B r c a)).getD i (0,0)=(i,c):=by
 rw[hd0_at _ (by rw[om_len];exact h),om_at]
theorem om_in {B r c:Nat} {a:Nat->Nat->Q3} {i:Nat} (h:i<r):(in0 (om B r c a)).getD i []=(tab c (a i)).map (rp B):=by
 rw[in0_at _ (by rw[om_len];exact h),om_at]
theorem om_num {B c:Nat} {a:Nat->Q3} {j:Nat} (h:j<c) (d:Bool×(List Int×List Int)):((tab c a).map (rp B)).getD j d=rp B (a j):=by
 rw[List.getD_eq_getElem?_getD,List.getElem?_map,List.getElem?_eq_getElem (by rw[tab_len];exact h),tab_get _ h];rfl
def updM (a:Nat->Nat->Q3) (i j:Nat) (q:Q3):Nat->Nat->Q3:=fun x y=>if x=i/\y=j then q else a x y
theorem om_write {B r c:Nat} {a:Nat->Nat->Q3} {i j:Nat} (hi:i<r) (q:Q3):nrm (hd0 (om B r c a)) ((in0 (om B r c a)).set i (((tab c (a i)).map (rp B)).set j (rp B q)))=om B r c (updM a i j q):=by
 rw[nrm_write _ (by rw[om_len];exact hi),om_at];apply List.ext_getElem
 ·rw[List.length_set,om_len,om_len]
 ·intro x h1 h2;rw[List.length_set]at h1;rw[List.getElem_set,om_at h2];rw[om_len]at h2
  by_cases e:i=x
  ·subst e;rw[if_pos rfl];congr 1;rw[tab_map,tab_set,tab_map];apply tab_congr;intro y hy;unfold updM
   by_cases e2:y=j
   ·rw[if_pos e2,if_pos ⟨rfl,e2⟩]
   ·rw[if_neg e2,if_neg (fun q=>e2 q.2)]
  ·rw[if_neg e,om_at h1];congr 2;apply tab_congr;intro y hy;unfold updM;rw[if_neg (fun q=>e q.1.symm)]
def okq (q:Q3):Prop:=low q/\below 350000000 q
end Go.Cm
end
section
set_option linter.unusedVariables false
namespace Go.Cm
end Go.Cm
end
section
set_option linter.unusedVariables false
namespace Go.Cm
theorem joinH_hd0 {α:Type} (m l:List (List α×Nat)):joinH (in0 m).length (hd0 m) (hd0 l)=hd0 (m++l):=by
 unfold joinH hd0;rw[in0_length,List.mapIdx_append];congr 1;apply List.ext_getElem
 ·simp
 ·intro i h1 h2;simp
theorem in0_snoc {α:Type} (m:List (List α×Nat)) (v:List α) (c:Nat):in0 m++[v]=in0 (m++[(v,c)]):=by
 unfold in0;simp
theorem tabm_snoc (B a:Nat) (f:Nat->Q3):(tab a f).map (rp B)++[rp B (f a)]=(tab (a+1) f).map (rp B):=by
 rw[tab_succ,List.map_append];rfl
theorem mq_held {B:Nat} {M:List (List Q3)} (h:isM M) {i j:Nat} (hi:i<M.length) (hj:j<M.length):((mp B M).getD i []).getD j (false,(([]:List Int),([]:List Int)))=rp B (mq M i j):=by
 rw[mp_at hi,getD_rp B (by rw[(isM_row h hi).1];exact hj)];rfl
theorem mq_wide {B:Nat} {M:List (List Q3)} (h:isM M) {i:Nat} (hi:i<M.length):((mp B M).getD i []).length=M.length:=by
 rw[mp_at hi,List.length_map,(isM_row h hi).1]
theorem tab_rep {α:Type} (n:Nat) (x:α):List.replicate n x=tab n fun _=>x:=by
 unfold tab;rw[List.map_const',List.length_range]
end Go.Cm
end
section
set_option linter.unusedVariables false
namespace Go.Cm
end Go.Cm
end
section
set_option linter.unusedVariables false
namespace Go.Cm
theorem okq_low {B:Nat} (hB:10^9<=B) {q:Q3} (h:okq q):lowb B 40000000 (rp B q)=true:=lowb_rp9 hB h.1 h.2 (by decide)
theorem okq_200 {q:Q3} (h:low q/\below 200 q):okq q:=⟨h.1,below_mono (by decide) h.2⟩
end Go.Cm
end
section
set_option linter.unusedVariables false
namespace Go.Cm
def mat (n:Nat) (a:Nat->Nat->Q3):List (List Q3):=tab n fun i=>tab n (a i)
theorem mat_len (n:Nat) (a:Nat->Nat->Q3):(mat n a).length=n:=tab_len _ _
theorem idi (xs:List Int):xs.map (fun y=>y)=xs:=List.map_id' xs
theorem om_view {B n:Nat} {a:Nat->Nat->Q3} :(om B n n a).map (fun y=>(y.1.take y.2).map fun z=>(z.1,z.2.1.map (fun y=>y),z.2.2.map (fun y=>y)))=mp B (mat n a):=by
 unfold om mat mp;rw[tab_map,tab_map];apply tab_congr;intro i hi;dsimp only;rw[List.take_of_length_le (by rw[List.length_map,tab_len];exact Nat.le_refl _),List.map_map];apply List.map_congr_left;intro q hq;show((rp B q).1,(rp B q).2.1.map (fun y=>y),(rp B q).2.2.map (fun y=>y))=rp B q;rw[idi,idi]
theorem zeros_om {B n:Nat} :List.replicate n (List.replicate n (rp B zeroQ),n)=om B n n (fun _ _=>zeroQ):=by
 unfold om;rw[tab_rep,tab_rep];apply tab_congr;intro i hi;rw[tab_map]
def giveM (M:List (List Q3)):List (List ByteArray)×Bool:=if(M.all fun r=>r.all fitN)=true then(M.map fun r=>(giveL r).1,true)else([],false)
def ownW (c:List (List ByteArray)×Bool):(List (List ByteArray×Nat)×Nat)×Bool:=((c.1.map fun r=>(r,r.length),c.1.length),c.2)
theorem own_app {α:Type} {m:List (List α×Nat)} {v:List α} {c:Nat} :(dup ((joinH (in0 m).length (hd0 m) (hd0 [(v,c)])).map fun y=>y.1)=false)/\nrm (joinH (in0 m).length (hd0 m) (hd0 [(v,c)])) (in0 m++[v])=m++[(v,c)]:=by
 rw[joinH_hd0];refine⟨hd0_dup _,?_⟩;rw[in0_snoc _ _ c,nrm_hd0]
theorem giveL_fit {r:List Q3} :(giveL r).2=r.all fitN:=by
 unfold giveL;cases h:r.all fitN
 ·rfl
 ·rfl
def okM (M:List (List Q3)):Prop:=M.length<=12/\∀r∈M,r.length<=12/\∀q∈r,okq q
theorem okM_mat {n:Nat} {a:Nat->Nat->Q3} (hn:n<=12) (h:∀i,i<n->∀j,j<n->okq (a i j)):okM (mat n a):=by
 refine⟨by rw[mat_len];exact hn,fun r hr=> ?_⟩;obtain⟨i,hi,rfl⟩:=tab_mem.1 hr;refine⟨by rw[tab_len];exact hn,fun q hq=> ?_⟩;obtain⟨j,hj,rfl⟩:=tab_mem.1 hq;exact h i hi j hj
theorem okM_rok {B:Nat} (hB:10^9<=B) {r:List Q3} (h:∀q∈r,okq q):(r.map (rp B)).all (rok B 40000000)=true:=all_rok hB (by decide:350000000<=350000000) h
def shrQ (s:ByteArray):Bool:=(rdRat s.data.toList).2&&(!(rdRat s.data.toList).1.1&&decide (cmpZ (rdRat s.data.toList).1 oneQ<=0))
theorem sgn_neg {q:Q3} (h:low q):0<=sgnQ q.1 q.2.1↔q.1=false:=by
 unfold sgnQ;cases hq:q.1
 ·split
  ·simp
  ·simp
 ·rw[if_neg (h.2.1 hq),if_pos rfl];simp
theorem cmp_one {q:Q3} (h:low q):(!decide (cmpZ oneQ q<0))=decide (cmpZ q oneQ<=0):=by
 have h1:=cmpZ_ok oneQ_low h;have h2:=cmpZ_ok h oneQ_low;rw[<-decide_not,decide_eq_decide,h1.1];constructor
 ·intro h3
  by_cases h4:cmpZ q oneQ<0
  ·omega
  ·have h5:¬qv q<qv oneQ:=fun z=>h4 (h2.1.2 z)
   have:qv q=qv oneQ:=by grind
   have:=h2.2.2 this;omega
 ·intro h3 h4
  by_cases h5:cmpZ q oneQ<0
  ·have:=h2.1.1 h5;grind
  ·have:=h2.2.1 (by omega);grind
def lazyQ (M:List (List Q3)) (a:Q3):Nat->Nat->Q3:=fun i j=>if i=j then addQ (mulQ a (mq M i j)) (addQ oneQ (oppQ a))else mulQ a (mq M i j)
theorem lazy_ok {M:List (List Q3)} (h:isCh M) {a:Q3} (ha:low a) (hb:below 200 a):okq (addQ oneQ (oppQ a))/\(∀i,i<M.length->∀j,j<M.length->okq (mulQ a (mq M i j))/\okq (lazyQ M a i j)):=by
 have h1:okq (addQ oneQ (oppQ a)):=⟨addQ_low _ _ oneQ_low (oppQ_low _ ha),below_mono (by decide) (addQ_below (oneQ_below (n:=1) (by decide)) (oppQ_below hb))⟩
 refine⟨h1,fun i hi j hj=> ?_⟩;obtain⟨c1,c2,_⟩:=ch_at h hi hj;have h2:=mulQ_below hb c2;have h3:=mulQ_low _ _ ha c1;refine⟨⟨h3,below_mono (by decide) h2⟩,?_⟩;unfold lazyQ;split
 ·exact⟨addQ_low _ _ h3 h1.1,below_mono (by decide) (addQ_below h2 (addQ_below (oneQ_below (n:=1) (by decide)) (oppQ_below hb)))⟩
 ·exact⟨h3,below_mono (by decide) h2⟩
def lzT (u:List (List ByteArray)) (s:ByteArray):List (List ByteArray)×Bool:=if(chQ u).2=true/\shrQ s=true then giveM (mat (chQ u).1.length (lazyQ (chQ u).1 (rdRat s.data.toList).1))else([],false)
theorem shr_low {s:ByteArray} (h:shrQ s=true):low (rdRat s.data.toList).1/\below 200 (rdRat s.data.toList).1:=by
 unfold shrQ at h;rw[Bool.and_eq_true]at h;exact⟨rdRat_low _ h.1,(rdRat_ok _ h.1).2⟩
end Go.Cm
end
