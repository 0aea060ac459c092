import Derived.Test.YtdpljomfkoojnaaGreatDoorCmQz
section
set_option linter.unusedVariables false
namespace Go.Cm
def sm:Nat->(Nat->Rat)->Rat
 |0,_=>0
 |n+1,f=>sm n f+f n
theorem sm_congr {f g:Nat->Rat} :∀ {n:Nat},(∀i,i<n->f i=g i)->sm n f=sm n g
 |0,_=>rfl
 |n+1,h=>by
  rw[sm,sm,sm_congr fun i hi=>h i (by omega),h n (by omega)]
theorem sm_add (f g:Nat->Rat):∀n:Nat,sm n (fun i=>f i+g i)=sm n f+sm n g
 |0=>by rw[sm,sm,sm,Rat.add_zero]
 |n+1=>by
  rw[sm,sm,sm,sm_add f g n];grind
theorem sm_one (c:Nat->Rat) (k:Nat):∀n:Nat,sm n (fun i=>if i=k then c i else 0)=if k<n then c k else 0
 |0=>rfl
 |n+1=>by
  rw[sm,sm_one c k n]
  by_cases h:k=n
  ·subst h;rw[if_neg (by omega),if_pos rfl,if_pos (by omega),Rat.zero_add]
  ·rw[if_neg (show ¬n=k from fun e=>h e.symm),Rat.add_zero]
   by_cases h2:k<n
   ·rw[if_pos h2,if_pos (by omega)]
   ·rw[if_neg h2,if_neg (by omega)]
def hd (D H:Nat) (r:Q3):Prop:=low r/\0<D/\∃z:Int,qv r*(D:Rat)=(z:Rat)/\z.natAbs<=H
def mq (M:List (List Q3)):Nat->Nat->Q3:=fun i j=>(M.getD i []).getD j zeroQ
end Go.Cm
end
section
set_option linter.unusedVariables false
namespace Go.Cm
def sw (k l i:Nat):Nat:=if i=k then l else if i=l then k else i
def pvF (p:Nat->Bool):Nat->Nat->Nat
 |0,i=>i
 |f+1,i=>if p i=true then i else pvF p f (i+1)
def pvt (a:Nat->Nat->Q3) (n k:Nat):Nat:=pvF (fun i=>decide ((a i k).2.1≠0)) (n - k) k
def elE (a:Nat->Nat->Q3) (k i j:Nat):Q3:=addQ (a i j) (oppQ (mulQ (overQ (a i k) (a k k)) (a k j)))
def elF (full:Bool) (a:Nat->Nat->Q3) (k:Nat):Nat->Nat->Q3:=fun i j=>
 if(k<i\/full=true/\i≠k)/\(a i k).2.1≠0/\k<=j then elE a k i j else a i j
def swQ (a:Nat->Nat->Q3) (k l:Nat):Nat->Nat->Q3:=fun i=>a (sw k l i)
def elim (full:Bool) (n:Nat) (a:Nat->Nat->Q3):Nat->Nat->Nat->Q3
 |0=>a
 |k+1=>elF full (swQ (elim full n a k) k (pvt (elim full n a k) n k)) k
def vals (a:Nat->Nat->Q3):Nat->Nat->Rat:=fun i j=>qv (a i j)
theorem ne_qv {r:Q3} (h:low r):r.2.1≠0↔qv r≠0:=by rw[Ne,Ne,qv_zero_iff h]
end Go.Cm
end
section
set_option linter.unusedVariables false
namespace Go.Cm
def sbQ (a:Nat->Nat->Q3) (b:Nat->Q3) (k:Nat):Nat->Q3
 |0=>b k
 |t+1=>addQ (sbQ a b k t) (oppQ (mulQ (a k (k+1+t)) (b (k+1+t))))
def bkQ (a:Nat->Nat->Q3) (n:Nat):Nat->Nat->Q3
 |0=>fun i=>a i n
 |m+1=>fun i=>if i=n - 1 - m then overQ (sbQ a (bkQ a n m) (n - 1 - m) m) (a (n - 1 - m) (n - 1 - m))else bkQ a n m i
def eB (H m:Nat):Nat:=(12*(H*H))^m
def solI (a:Nat->Nat->Q3) (n:Nat):Nat->Q3:=bkQ (elim false n a n) n n
def ext (n:Nat) (x:Nat->Rat):Nat->Rat:=fun j=>if j=n then -1 else x j
end Go.Cm
end
section
set_option linter.unusedVariables false
namespace Go.Cm
inductive Rch (A:Nat->Nat->Bool) (n s:Nat):Nat->Prop where
 |refl:Rch A n s s
 |step {i j:Nat} :Rch A n s i->i<n->j<n->A i j=true->Rch A n s j
theorem Rch.trans {A:Nat->Nat->Bool} {n s i j:Nat} (h:Rch A n s i) (k:Rch A n i j):Rch A n s j:=by
 induction k with
 |refl=>exact h
 |step _ a b c ih=>exact .step ih a b c
theorem Rch.lt {A:Nat->Nat->Bool} {n s i:Nat} (h:Rch A n s i) (hs:s<n):i<n:=by
 cases h with
 |refl=>exact hs
 |step _ _ b _=>exact b
structure Bin (A:Nat->Nat->Bool) (n s:Nat) (sn:List Bool) (td:List Nat):Prop where
 ok:Bok n (sn,td)
 sound:∀j,sn.getD j false=true->Rch A n s j
 todo:∀t∈td,sn.getD t false=true
 done:∀i,i<n->sn.getD i false=true->i∈td\/∀j,j<n->A i j=true->sn.getD j false=true
theorem getDset {sn:List Bool} {i j:Nat} (h:i<sn.length):(sn.set i true).getD j false=(decide (j=i)||sn.getD j false):=by
 rw[List.getD_eq_getElem?_getD,List.getD_eq_getElem?_getD,List.getElem?_set]
 by_cases e:i=j
 ·subst e;simp [h]
 ·rw[if_neg e,decide_eq_false (fun q=>e q.symm),Bool.false_or]
theorem fold_in {A:Nat->Nat->Bool} {n s i:Nat} {sn:List Bool} {td:List Nat} (hi:i<n) (hs:sn.getD i false=true) (h:Bin A n s sn (i::td)):∀k,k<=n->
  Bok n ((List.range k).foldl (stepB (A i)) (sn,td))/\(∀j,((List.range k).foldl (stepB (A i)) (sn,td)).1.getD j false=true->Rch A n s j)/\(∀t∈((List.range k).foldl (stepB (A i)) (sn,td)).2,((List.range k).foldl (stepB (A i)) (sn,td)).1.getD t false=true)/\
  (∀j,sn.getD j false=true->((List.range k).foldl (stepB (A i)) (sn,td)).1.getD j false=true)/\(∀j,j<k->A i j=true->((List.range k).foldl (stepB (A i)) (sn,td)).1.getD j false=true)/\
  (∀t∈td,t∈((List.range k).foldl (stepB (A i)) (sn,td)).2)/\(∀j,((List.range k).foldl (stepB (A i)) (sn,td)).1.getD j false=true->sn.getD j false=true\/j∈((List.range k).foldl (stepB (A i)) (sn,td)).2)
 |0,_=>⟨⟨h.ok.len,fun t ht=>h.ok.lt t (List.mem_cons_of_mem _ ht)⟩,h.sound,fun t ht=>h.todo t (List.mem_cons_of_mem _ ht),fun _ q=>q,fun j hj=>by omega,fun _ q=>q,fun _ q=>Or.inl q⟩
 |k+1,hk=>by
  obtain⟨a1,a2,a3,a4,a5,a6,a7⟩:=fold_in hi hs h k (by omega);rw[fold_succ];generalize (List.range k).foldl (stepB (A i)) (sn,td)=p at*;have b1:=(stepB_ok (a:=A i) (j:=k) (by omega) a1).1;have hl:k<p.1.length:=by rw[a1.len];omega
  unfold stepB at b1 ⊢
  by_cases hc:A i k=true/\p.1.getD k false=false
  ·rw[if_pos hc]at b1 ⊢;refine⟨b1,fun j hj=> ?_,fun t ht=> ?_,fun j hj=> ?_,fun j hj ha=> ?_,fun t ht=>List.mem_append_left _ (a6 t ht),fun j hj=> ?_⟩
   ·dsimp only at hj;rw[getDset hl,Bool.or_eq_true,decide_eq_true_iff]at hj;rcases hj with rfl|hj
    ·exact .step (h.sound i hs) hi (by omega) hc.1
    ·exact a2 j hj
   ·dsimp only at ht ⊢;rw[getDset hl,Bool.or_eq_true,decide_eq_true_iff];rcases List.mem_append.1 ht with ht|ht
    ·exact Or.inr (a3 t ht)
    ·exact Or.inl (by simpa using ht)
   ·dsimp only;rw[getDset hl,a4 j hj,Bool.or_true]
   ·dsimp only;rw[getDset hl,Bool.or_eq_true,decide_eq_true_iff]
    by_cases e:j=k
    ·exact Or.inl e
    ·exact Or.inr (a5 j (by omega) ha)
   ·dsimp only at hj ⊢;rw[getDset hl,Bool.or_eq_true,decide_eq_true_iff]at hj;rcases hj with rfl|hj
    ·exact Or.inr (by simp)
    ·rcases a7 j hj with q|q
     ·exact Or.inl q
     ·exact Or.inr (List.mem_append_left _ q)
  ·rw[if_neg hc]at b1 ⊢;refine⟨b1,a2,a3,a4,fun j hj ha=> ?_,a6,a7⟩
   by_cases e:j=k
   ·subst e;cases hv:p.1.getD j false
    ·exact(hc ⟨ha,hv⟩).elim
    ·rfl
   ·exact a5 j (by omega) ha
theorem bfs_in {A:Nat->Nat->Bool} {n s:Nat} :∀(f:Nat) (sn:List Bool) (td:List Nat),Bin A n s sn td->td.length+sn.count false<=f->(∀j,(bfs A n f sn td).getD j false=true->Rch A n s j)/\(∀j,sn.getD j false=true->(bfs A n f sn td).getD j false=true)/\∀i,i<n->(bfs A n f sn td).getD i false=true->∀j,j<n->A i j=true->(bfs A n f sn td).getD j false=true
 |0,sn,td,h,hm=>by
  have:td=[]:=List.eq_nil_of_length_eq_zero (by omega);subst this;exact⟨h.sound,fun _ q=>q,fun i hi hs=>(h.done i hi hs).resolve_left (by simp)⟩
 |f+1,sn,[],h,hm=>⟨h.sound,fun _ q=>q,fun i hi hs=>(h.done i hi hs).resolve_left (by simp)⟩
 |f+1,sn,i::r,h,hm=>by
  have hi:i<n:=h.ok.lt i (List.mem_cons_self ..);have hs:=h.todo i (List.mem_cons_self ..);have h':Bok n (sn,r):=⟨h.ok.len,fun t ht=>h.ok.lt t (List.mem_cons_of_mem _ ht)⟩
  obtain⟨a1,a2,a3,a4,a5,a6,a7⟩:=fold_in hi hs h n (Nat.le_refl _);obtain⟨_,c2⟩:=foldB_ok (a:=A i) h' n (Nat.le_refl _);obtain⟨q1,q2,q3⟩:=bfs_in f (scanB (A i) n (sn,r)).1 (scanB (A i) n (sn,r)).2 ⟨a1,a2,a3,fun t ht hv=>by
   by_cases e:t=i
   ·subst e;exact Or.inr a5
   ·rcases a7 t hv with q|q
    ·rcases h.done t ht q with u|u
     ·rcases List.mem_cons.1 u with u|u
      ·exact(e u).elim
      ·exact Or.inl (a6 t u)
     ·exact Or.inr fun j hj ha=>a4 j (u j hj ha)
    ·exact Or.inl q⟩ (by
   rw[List.length_cons]at hm;have:(scanB (A i) n (sn,r)).2.length+(scanB (A i) n (sn,r)).1.count false=r.length+sn.count false:=c2;omega)
  exact⟨q1,fun j hj=>q2 j (a4 j hj),q3⟩
theorem reachB_iff {A:Nat->Nat->Bool} {n s:Nat} (hs:s<n) (j:Nat):(reachB A n s).getD j false=true↔Rch A n s j:=by
 obtain⟨c1,c2⟩:=start_ok hs;have hl:s<(List.replicate n false).length:=by simpa using hs
 have e:∀j,((List.replicate n false).set s true).getD j false=decide (j=s):=fun j=>by
  rw[getDset hl];have:(List.replicate n false).getD j false=false:=by
   rw[List.getD_eq_getElem?_getD,List.getElem?_replicate];split<;>rfl
  rw[this,Bool.or_false]
 obtain⟨q1,q2,q3⟩:=bfs_in (A:=A) (s:=s) n _ _ ⟨c1,fun j hj=>by
  rw[e,decide_eq_true_iff]at hj;subst hj;exact .refl,fun t ht=>by
  rw[e];simpa using ht,fun i hi hv=>by
  rw[e,decide_eq_true_iff]at hv;exact Or.inl (by simp [hv])⟩ (Nat.le_of_eq c2)
 refine⟨q1 j,fun h=> ?_⟩
 induction h with
 |refl=>exact q2 s (by rw[e];simp)
 |step _ a b c ih=>exact q3 _ a ih _ b c
end Go.Cm
end
section
set_option linter.unusedVariables false
namespace Go.Cm
structure Cin (R:Nat->Nat->Bool) (n k:Nat) (s:List Int×List Bool):Prop where
 len:s.1.length=n
 cnt:s.2.length<=k
 num:∀j,j<n->s.1.getD j (-1)= -1\/0<=s.1.getD j (-1)/\s.1.getD j (-1)<(s.2.length:Int)
 rep:∀c,c<s.2.length->∃r,r<n/\(∀j,j<n->(s.1.getD j (-1)=(c:Int)↔R r j=true/\R j r=true))/\(s.2.getD c false=true↔∀j,j<n->R r j=true->R j r=true)
 all:∀j,j<k->0<=s.1.getD j (-1)
theorem cls_in {R:Nat->Nat->Bool} {n:Nat} (hr:∀i,i<n->R i i=true) (ht:∀i j k,i<n->j<n->k<n->R i j=true->R j k=true->R i k=true):∀k,k<=n->Cin R n k ((List.range k).foldl (clsStep R n) (List.replicate n (-1),[]))
 |0,_=>by
  have e:∀j,j<n->(List.replicate n (-1:Int)).getD j (-1)= -1:=fun j hj=>by simp [List.getD_eq_getElem?_getD,hj]
  exact⟨by simp,Nat.le_refl _,fun j hj=>Or.inl (e j hj),fun c hc=>by simp at hc,fun j hj=>by omega⟩
 |k+1,hk=>by
  have ih:=cls_in hr ht k (by omega);rw[fold_succ];generalize (List.range k).foldl (clsStep R n) (List.replicate n (-1),[])=s at ih ⊢;unfold clsStep
  by_cases h0:0<=s.1.getD k (-1)
  ·rw[if_pos h0]
   exact⟨ih.len,by have:=ih.cnt;omega,ih.num,ih.rep,fun j hj=>by
    by_cases e:j=k
    ·subst e;exact h0
    ·exact ih.all j (by omega)⟩
  ·rw[if_neg h0];have hk':k<n:=by omega
   have hlen:=ih.cnt;have hm1:s.1.getD k (-1)= -1:=(ih.num k hk').resolve_right fun q=>h0 q.1
   have hg:∀j,j<n->(tab n fun j=>if(R k j&&R j k)=true then(s.2.length:Int)else s.1.getD j (-1)).getD j (-1)=if(R k j&&R j k)=true then(s.2.length:Int)else s.1.getD j (-1):=fun j hj=>tab_getD _ _ hj
   have hfree:∀c,c<s.2.length->∀j,j<n->R k j=true->R j k=true->s.1.getD j (-1)≠(c:Int):=fun c hc j hj h1 h2 e=>by
    obtain⟨r,r1,r2,_⟩:=ih.rep c hc;obtain⟨a,b⟩:=(r2 j hj).1 e;have:s.1.getD k (-1)=(c:Int):=(r2 k hk').2 ⟨ht r j k r1 hj hk' a h2,ht k j r hk' hj r1 h1 b⟩;omega
   refine⟨tab_len _ _,by simp;omega,fun j hj=> ?_,fun c hc=> ?_,fun j hj=> ?_⟩
   ·dsimp only;rw[hg j hj];simp only[List.length_append,List.length_cons,List.length_nil];split
    ·right;omega
    ·rcases ih.num j hj with q|q
     ·exact Or.inl q
     ·right;omega
   ·simp only[List.length_append,List.length_cons,List.length_nil]at hc
    by_cases hcl:c<s.2.length
    ·obtain⟨r,r1,r2,r3⟩:=ih.rep c hcl;refine⟨r,r1,fun j hj=> ?_,?_⟩
     ·dsimp only;rw[hg j hj]
      by_cases hm:(R k j&&R j k)=true
      ·rw[if_pos hm];rw[Bool.and_eq_true]at hm;constructor
       ·intro e;omega
       ·intro e;exact(hfree c hcl j hj hm.1 hm.2 ((r2 j hj).2 e)).elim
      ·rw[if_neg hm];exact r2 j hj
     ·have:(s.2++[(List.range n).all fun j=> !R k j||R j k]).getD c false=s.2.getD c false:=by
       rw[List.getD_eq_getElem?_getD,List.getD_eq_getElem?_getD,List.getElem?_append_left hcl]
      dsimp only;rw[this];exact r3
    ·have hce:c=s.2.length:=by omega
     subst hce;refine⟨k,hk',fun j hj=> ?_,?_⟩
     ·dsimp only;rw[hg j hj]
      by_cases hm:(R k j&&R j k)=true
      ·rw[if_pos hm];rw[Bool.and_eq_true]at hm;exact⟨fun _=>hm,fun _=>rfl⟩
      ·rw[if_neg hm];constructor
       ·intro e;rcases ih.num j hj with q|q<;>omega
       ·intro e;exact(hm (by rw[Bool.and_eq_true];exact e)).elim
     ·have:(s.2++[(List.range n).all fun j=> !R k j||R j k]).getD s.2.length false=(List.range n).all fun j=> !R k j||R j k:=by
       rw[List.getD_eq_getElem?_getD,List.getElem?_append_right (Nat.le_refl _)];simp
      dsimp only;rw[this,List.all_eq_true];constructor
      ·intro h j hj h1;have:=h j (List.mem_range.2 hj);rw[h1]at this;simpa using this
      ·intro h j hj;have:=h j (List.mem_range.1 hj);cases hv:R k j
       ·rfl
       ·rw[this hv];rfl
   ·dsimp only;rw[hg j (by omega)]
    by_cases e:j=k
    ·subst e;rw[hr j hk'];simp
    ·have:=ih.all j (by omega);split<;>omega
def cut (m:Nat->Nat->Rat) (k:Nat):Nat->Nat->Rat:=fun i j=>m i j+m i k/sm k (m k)*m k j
end Go.Cm
end
section
set_option linter.unusedVariables false
namespace Go.Cm
def hB (c t:Nat):Nat:=10^(2^t*c - 2)
end Go.Cm
end
section
set_option linter.unusedVariables false
namespace Go.Cm
theorem RB_iff {M:List (List Q3)} {i:Nat} (hi:i<M.length) (j:Nat):rcB M i j=true↔Rch (adj M) M.length i j:=reachB_iff hi j
theorem RB_refl (M:List (List Q3)):∀i,i<M.length->rcB M i i=true:=fun i hi=>(RB_iff hi i).2 .refl
theorem RB_trans (M:List (List Q3)):∀i j k,i<M.length->j<M.length->k<M.length->rcB M i j=true->rcB M j k=true->rcB M i k=true:=fun i j k hi hj _ h1 h2=>(RB_iff hi k).2 (((RB_iff hi j).1 h1).trans ((RB_iff hj k).1 h2))
theorem cls_ok (M:List (List Q3)):Cin (rcB M) M.length M.length (clsM M):=cls_in (RB_refl M) (RB_trans M) M.length (Nat.le_refl _)
end Go.Cm
end
section
set_option linter.unusedVariables false
namespace Go.Cm
def subQ (M:List (List Q3)) (c:Nat->Bool):Nat->Nat->Q3:=fun a b=>mq M ((fl c M.length).getD a 0) ((fl c M.length).getD b 0)
end Go.Cm
end
section
set_option linter.unusedVariables false
namespace Go.Cm
def hA (M:List (List Q3)) (tu:Bool) (c:Nat->Bool) (g:Nat->Q3):Nat->Nat->Q3:=fun a b=>
 if b=(fl c M.length).length then g ((fl c M.length).getD a 0)
 else if a=b then addQ (oppQ (if tu=true then subQ M c b a else subQ M c a b)) oneQ else oppQ (if tu=true then subQ M c b a else subQ M c a b)
end Go.Cm
end
section
set_option linter.unusedVariables false
namespace Go.Cm
def om (B r c:Nat) (a:Nat->Nat->Q3):List (List (Bool×(List Int×List Int))×Nat):=tab r fun i=>((tab c (a i)).map (rp B),c)
theorem om_len (B r c:Nat) (a:Nat->Nat->Q3):(om B r c a).length=r:=tab_len _ _
theorem om_congr {B r c:Nat} {a b:Nat->Nat->Q3} (h:∀i,i<r->∀j,j<c->a i j=b i j):om B r c a=om B r c b:=by
 unfold om;apply tab_congr;intro i hi;rw[tab_congr fun j hj=>h i hi j hj]
theorem om_at {B r c:Nat} {a:Nat->Nat->Q3} {i:Nat} (h:i<(om B r c a).length):(om B r c a)[i]=((tab c (a i)).map (rp B),c):=by
 exact tab_get _ (by rw[om_len]at h;exact h)
theorem om_hd {B r c:Nat} {a:Nat->Nat->Q3} {i:Nat} (h:i<r):(hd0 (om B r c a)).getD i (0,0)=(i,c):=by
 rw[hd0_at _ (by rw[om_len];exact h),om_at]
theorem om_in {B r c:Nat} {a:Nat->Nat->Q3} {i:Nat} (h:i<r):(in0 (om B r c a)).getD i []=(tab c (a i)).map (rp B):=by
 rw[in0_at _ (by rw[om_len];exact h),om_at]
def updM (a:Nat->Nat->Q3) (i j:Nat) (q:Q3):Nat->Nat->Q3:=fun x y=>if x=i/\y=j then q else a x y
theorem om_write {B r c:Nat} {a:Nat->Nat->Q3} {i j:Nat} (hi:i<r) (q:Q3):nrm (hd0 (om B r c a)) ((in0 (om B r c a)).set i (((tab c (a i)).map (rp B)).set j (rp B q)))=om B r c (updM a i j q):=by
 rw[nrm_write _ (by rw[om_len];exact hi),om_at];apply List.ext_getElem
 ·rw[List.length_set,om_len,om_len]
 ·intro x h1 h2;rw[List.length_set]at h1;rw[List.getElem_set,om_at h2];rw[om_len]at h2
  by_cases e:i=x
  ·subst e;rw[if_pos rfl];congr 1;rw[tab_map,tab_set,tab_map];apply tab_congr;intro y hy;unfold updM
   by_cases e2:y=j
   ·rw[if_pos e2,if_pos ⟨rfl,e2⟩]
   ·rw[if_neg e2,if_neg (fun q=>e2 q.2)]
  ·rw[if_neg e,om_at h1];congr 2;apply tab_congr;intro y hy;unfold updM;rw[if_neg (fun q=>e q.1.symm)]
def okq (q:Q3):Prop:=low q/\below 350000000 q
end Go.Cm
end
section
set_option linter.unusedVariables false
namespace Go.Cm
end Go.Cm
end
section
set_option linter.unusedVariables false
namespace Go.Cm
theorem joinH_hd0 {α:Type} (m l:List (List α×Nat)):joinH (in0 m).length (hd0 m) (hd0 l)=hd0 (m++l):=by
 unfold joinH hd0;rw[in0_length,List.mapIdx_append];congr 1;apply List.ext_getElem
 ·simp
 ·intro i h1 h2;simp
theorem in0_snoc {α:Type} (m:List (List α×Nat)) (v:List α) (c:Nat):in0 m++[v]=in0 (m++[(v,c)]):=by
 unfold in0;simp
theorem om_snoc (B a c:Nat) (f:Nat->Nat->Q3):om B a c f++[((tab c (f a)).map (rp B),c)]=om B (a+1) c f:=by
 unfold om;rw[tab_succ]
theorem om_app {B a c:Nat} {f:Nat->Nat->Q3} :(dup ((joinH (in0 (om B a c f)).length (hd0 (om B a c f)) (hd0 [((tab c (f a)).map (rp B),c)])).map fun y=>y.1)=false)/\nrm (joinH (in0 (om B a c f)).length (hd0 (om B a c f)) (hd0 [((tab c (f a)).map (rp B),c)])) (in0 (om B a c f)++[(tab c (f a)).map (rp B)])=om B (a+1) c f:=by
 rw[joinH_hd0,om_snoc];refine⟨hd0_dup _,?_⟩;rw[in0_snoc _ _ c,om_snoc,nrm_hd0]
theorem tabm_snoc (B a:Nat) (f:Nat->Q3):(tab a f).map (rp B)++[rp B (f a)]=(tab (a+1) f).map (rp B):=by
 rw[tab_succ,List.map_append];rfl
theorem len_one {α:Type} {xs:List α} (h:xs.length=1):∃x,xs=[x]:=List.length_eq_one_iff.1 h
theorem tab_rep {α:Type} (n:Nat) (x:α):List.replicate n x=tab n fun _=>x:=by
 unfold tab;rw[List.map_const',List.length_range]
end Go.Cm
end
section
set_option linter.unusedVariables false
namespace Go.Cm
theorem om_hd0 (B r c:Nat) (a:Nat->Nat->Q3):hd0 (om B r c a)=tab r fun i=>(i,c):=by
 apply List.ext_getElem
 ·rw[hd0_length,om_len,tab_len]
 ·intro i h1 h2;rw[tab_len]at h2;have:=om_hd (B:=B) (c:=c) (a:=a) h2;rw[List.getD_eq_getElem?_getD,List.getElem?_eq_getElem h1]at this;rw[tab_get _ h2];exact this
end Go.Cm
end
section
set_option linter.unusedVariables false
namespace Go.Cm
theorem okq_low {B:Nat} (hB:10^9<=B) {q:Q3} (h:okq q):lowb B 40000000 (rp B q)=true:=lowb_rp9 hB h.1 h.2 (by decide)
theorem okq_200 {q:Q3} (h:low q/\below 200 q):okq q:=⟨h.1,below_mono (by decide) h.2⟩
end Go.Cm
end
section
set_option linter.unusedVariables false
namespace Go.Cm
def mat (n:Nat) (a:Nat->Nat->Q3):List (List Q3):=tab n fun i=>tab n (a i)
theorem mat_len (n:Nat) (a:Nat->Nat->Q3):(mat n a).length=n:=tab_len _ _
theorem idi (xs:List Int):xs.map (fun y=>y)=xs:=List.map_id' xs
theorem om_view {B n:Nat} {a:Nat->Nat->Q3} :(om B n n a).map (fun y=>(y.1.take y.2).map fun z=>(z.1,z.2.1.map (fun y=>y),z.2.2.map (fun y=>y)))=mp B (mat n a):=by
 unfold om mat mp;rw[tab_map,tab_map];apply tab_congr;intro i hi;dsimp only;rw[List.take_of_length_le (by rw[List.length_map,tab_len];exact Nat.le_refl _),List.map_map];apply List.map_congr_left;intro q hq;show((rp B q).1,(rp B q).2.1.map (fun y=>y),(rp B q).2.2.map (fun y=>y))=rp B q;rw[idi,idi]
def giveM (M:List (List Q3)):List (List ByteArray)×Bool:=if(M.all fun r=>r.all fitN)=true then(M.map fun r=>(giveL r).1,true)else([],false)
def ownW (c:List (List ByteArray)×Bool):(List (List ByteArray×Nat)×Nat)×Bool:=((c.1.map fun r=>(r,r.length),c.1.length),c.2)
theorem own_app {α:Type} {m:List (List α×Nat)} {v:List α} {c:Nat} :(dup ((joinH (in0 m).length (hd0 m) (hd0 [(v,c)])).map fun y=>y.1)=false)/\nrm (joinH (in0 m).length (hd0 m) (hd0 [(v,c)])) (in0 m++[v])=m++[(v,c)]:=by
 rw[joinH_hd0];refine⟨hd0_dup _,?_⟩;rw[in0_snoc _ _ c,nrm_hd0]
theorem giveL_fit {r:List Q3} :(giveL r).2=r.all fitN:=by
 unfold giveL;cases h:r.all fitN
 ·rfl
 ·rfl
def okM (M:List (List Q3)):Prop:=M.length<=12/\∀r∈M,r.length<=12/\∀q∈r,okq q
theorem okM_mat {n:Nat} {a:Nat->Nat->Q3} (hn:n<=12) (h:∀i,i<n->∀j,j<n->okq (a i j)):okM (mat n a):=by
 refine⟨by rw[mat_len];exact hn,fun r hr=> ?_⟩;obtain⟨i,hi,rfl⟩:=tab_mem.1 hr;refine⟨by rw[tab_len];exact hn,fun q hq=> ?_⟩;obtain⟨j,hj,rfl⟩:=tab_mem.1 hq;exact h i hi j hj
theorem okM_rok {B:Nat} (hB:10^9<=B) {r:List Q3} (h:∀q∈r,okq q):(r.map (rp B)).all (rok B 40000000)=true:=all_rok hB (by decide:350000000<=350000000) h
end Go.Cm
end
section
set_option linter.unusedVariables false
namespace Go.Cm
def oneK (M:List (List Q3)):Bool:=decide ((clsM M).2.length=1)
theorem oneK_iff {M:List (List Q3)} (h:isCh M):oneK M=true↔∀i,i<M.length->(clsM M).1.getD i 0=0:=by
 have ok:=cls_ok M;have h0:=h.1;have hd:∀i,i<M.length->(clsM M).1.getD i 0=(clsM M).1.getD i (-1):=fun i hi=>by
  have hl:=ok.len;rw[List.getD_eq_getElem?_getD,List.getD_eq_getElem?_getD,List.getElem?_eq_getElem (by omega)];rfl
 unfold oneK;rw[decide_eq_true_eq];constructor
 ·intro h1 i hi;rw[hd i hi];have a:=ok.all i hi;have b:=ok.num i hi;rw[h1]at b;omega
 ·intro h1;have hpos:0<(clsM M).2.length:=by
   have a:=ok.all 0 (by omega);have b:=ok.num 0 (by omega);rcases b with b|b<;>omega
  apply Classical.byContradiction;intro h2;obtain⟨r,r1,r2,_⟩:=ok.rep 1 (by omega);have:=(r2 r r1).2 ⟨RB_refl M r r1,RB_refl M r r1⟩;rw[<-hd r r1,h1 r r1]at this;exact absurd this (by decide)
theorem one_pos {M:List (List Q3)} (h:isCh M) (h1:oneK M=true):posF 0 (clsM M).2=[0]:=by
 have ok:=cls_ok M;unfold oneK at h1;rw[decide_eq_true_eq]at h1;obtain⟨b,hb⟩:=len_one h1;obtain⟨r,r1,r2,r3⟩:=ok.rep 0 (by omega);have h2:=(oneK_iff h).1 (by unfold oneK;rw[h1];rfl);have hd:∀i,i<M.length->(clsM M).1.getD i (-1)=0:=fun i hi=>by
  have a:=ok.all i hi;have b:=ok.num i hi;rw[h1]at b;omega
 have:(clsM M).2.getD 0 false=true:=r3.2 fun j hj hr=>((r2 j hj).1 (by rw[hd j hj];rfl)).2
 rw[hb]at this ⊢;have hbt:b=true:=this;rw[hbt];rfl
end Go.Cm
end
section
set_option linter.unusedVariables false
namespace Go.Cm
end Go.Cm
end
section
set_option linter.unusedVariables false
namespace Go.Cm
end Go.Cm
end
section
set_option linter.unusedVariables false
namespace Go.Cm
def inC (M:List (List Q3)) (tg:Nat->Bool) (i:Nat):Bool:= !tg i&&(List.range M.length).any fun j=>rcB M i j&&tg j
def toQ (M:List (List Q3)) (tg:Nat->Bool) (i:Nat):Nat->Q3
 |0=>zeroQ
 |k+1=>if tg k=true then addQ (toQ M tg i k) (mq M i k)else toQ M tg i k
def hiA (M:List (List Q3)) (tg:Nat->Bool):Nat->Nat->Q3:=hA M false (inC M tg) fun i=>toQ M tg i M.length
end Go.Cm
end
section
set_option linter.unusedVariables false
namespace Go.Cm
theorem mul_zero {q:Q3} (h:low q):mulQ q zeroQ=zeroQ:=by
 apply qv_inj (mulQ_low _ _ h zeroQ_low) zeroQ_low;rw[qv_mul h zeroQ_low,qv_zeroQ];grind
theorem mul_one {q:Q3} (h:low q):mulQ q oneQ=q:=by
 apply qv_inj (mulQ_low _ _ h oneQ_low) h;rw[qv_mul h oneQ_low,qv_oneQ];grind
end Go.Cm
end
section
set_option linter.unusedVariables false
namespace Go.Cm
end Go.Cm
end
section
set_option linter.unusedVariables false
namespace Go.Cm
end Go.Cm
end
section
set_option linter.unusedVariables false
namespace Go.Cm
def hQ (M:List (List Q3)) (tg:Nat->Bool) (j:Nat):Q3:=if inC M tg j=true then solI (hiA M tg) (fl (inC M tg) M.length).length (ix (inC M tg) j)else if tg j=true then oneQ else zeroQ
end Go.Cm
end
section
set_option linter.unusedVariables false
namespace Go.Cm
theorem zero_mul {q:Q3} (h:low q):mulQ zeroQ q=zeroQ:=by
 apply qv_inj (mulQ_low _ _ zeroQ_low h) zeroQ_low;rw[qv_mul zeroQ_low h,qv_zeroQ];grind
end Go.Cm
end
section
set_option linter.unusedVariables false
namespace Go.Cm
end Go.Cm
end
section
set_option linter.unusedVariables false
namespace Go.Cm
end Go.Cm
end
section
set_option linter.unusedVariables false
namespace Go.Cm
end Go.Cm
end
section
set_option linter.unusedVariables false
namespace Go.Cm
end Go.Cm
end
section
set_option linter.unusedVariables false
namespace Go.Cm
theorem om_in_write {B r c:Nat} {a:Nat->Nat->Q3} {i j:Nat} (hi:i<r) (q:Q3):(in0 (om B r c a)).set i (((tab c (a i)).map (rp B)).set j (rp B q))=in0 (om B r c (updM a i j q)):=by
 have h1:=om_write (B:=B) (c:=c) (a:=a) (j:=j) hi q;have h2:in0 (nrm (hd0 (om B r c a)) ((in0 (om B r c a)).set i (((tab c (a i)).map (rp B)).set j (rp B q))))=(in0 (om B r c a)).set i (((tab c (a i)).map (rp B)).set j (rp B q)):=by
  apply List.ext_getElem
  ·rw[in0_length,nrm_length,hd0_length,List.length_set,in0_length]
  ·intro k k1 k2;have k3:k<((List.map (fun x=>x.fst) (om B r c a)).set i (((tab c (a i)).map (rp B)).set j (rp B q))).length:=k2;unfold in0 nrm hd0;simp;rw[List.getElem?_eq_getElem k3];rfl
 rw[h1]at h2;exact h2.symm
theorem om_hd_same (B r c:Nat) (a b:Nat->Nat->Q3):hd0 (om B r c a)=hd0 (om B r c b):=by rw[om_hd0,om_hd0]
theorem om_put {B r c i:Nat} {f:Nat->Nat->Q3} {g:Nat->Q3} (hi:i<r):(dup ((((hd0 (om B r c f)).set i ((in0 (om B r c f)).length,c))).map fun y=>y.1)=false)/\nrm ((hd0 (om B r c f)).set i ((in0 (om B r c f)).length,c)) (in0 (om B r c f)++[(tab c g).map (rp B)])=om B r c (fun x=>if x=i then g else f x):=by
 refine⟨hd0_dup_set _ _ _,?_⟩;rw[nrm_store];unfold om;rw[tab_set];apply tab_congr;intro j _
 by_cases h:j=i
 ·simp only[if_pos h]
 ·simp only[if_neg h]
def rtI (us ds:Nat->Q3) (i x y:Nat):Q3:=if y=x+1/\x<i then us x else if x=y+1/\y<i then ds y else zeroQ
theorem rtI_zero (us ds:Nat->Q3) (x y:Nat):rtI us ds 0 x y=zeroQ:=by
 unfold rtI;rw[if_neg (by omega),if_neg (by omega)]
theorem rtI_step (us ds:Nat->Q3) (i:Nat):updM (updM (rtI us ds i) i (i+1) (us i)) (i+1) i (ds i)=rtI us ds (i+1):=by
 funext x y;unfold updM rtI
 by_cases h1:x=i+1/\y=i
 ·rw[if_pos h1,if_neg (by omega),if_pos (by omega),h1.2]
 ·rw[if_neg h1]
  by_cases h2:x=i/\y=i+1
  ·rw[if_pos h2,if_pos (by omega),h2.1]
  ·rw[if_neg h2]
   by_cases h3:y=x+1/\x<i
   ·rw[if_pos h3,if_pos (by omega)]
   ·have h5:¬(y=x+1/\x<i+1):=by omega
    rw[if_neg h3,if_neg h5]
    by_cases h4:x=y+1/\y<i
    ·rw[if_pos h4,if_pos (by omega)]
    ·have h6:¬(x=y+1/\y<i+1):=by omega
     rw[if_neg h4,if_neg h6]
end Go.Cm
end
section
set_option linter.unusedVariables false
namespace Go.Cm
theorem row_sum {n:Nat} {f:Nat->Q3} :∀k,k<=n->(∀j,j<n->low (f j)/\below 200 (f j))->low (sumQ (tab k f))/\qv (sumQ (tab k f))=sm k fun j=>qv (f j)
 |0,_,_=>⟨zeroQ_low,qv_zeroQ⟩
 |k+1,hk,h=>by
  obtain⟨a,b⟩:=row_sum k (by omega) h;obtain⟨c,_⟩:=h k (by omega);rw[tab_succ,sumQ_snoc];refine⟨addQ_low _ _ a c,?_⟩;rw[qv_add a c,b,sm]
theorem row_ok {n:Nat} (hn:n<=12) {f:Nat->Q3} (h:∀j,j<n->low (f j)/\below 200 (f j)):okq (sumQ (tab n f)):=by
 refine⟨(row_sum n (Nat.le_refl _) h).1,below_mono ?_ (sumQ_below 200 n _ (tab_len _ _) fun r hr=> ?_)⟩
 ·omega
 ·obtain⟨j,hj,rfl⟩:=tab_mem.1 hr;exact(h j hj).2
def upQ (us:Nat->Q3) (m n:Nat):Q3:=if n<m then us n else zeroQ
def dnQ (ds:Nat->Q3) (n:Nat):Q3:=if n=0 then zeroQ else ds (n - 1)
theorem rt_at (us ds:Nat->Q3) {m n k:Nat} (hn:n<=m) (hk:k<=m):rtI us ds m n k=if k=n+1 then upQ us m n else if n=k+1 then dnQ ds n else zeroQ:=by
 unfold rtI upQ dnQ
 by_cases h1:k=n+1
 ·rw[if_pos h1,if_pos (by omega),if_pos (by omega)]
 ·rw[if_neg h1,if_neg (by omega)]
  by_cases h2:n=k+1
  ·rw[if_pos h2,if_pos (by omega),if_neg (by omega),h2];rfl
  ·rw[if_neg h2,if_neg (by omega)]
theorem rt_sm (us ds:Nat->Q3) {m n:Nat} (hn:n<=m):(sm (m+1) fun k=>qv (rtI us ds m n k))=qv (upQ us m n)+qv (dnQ ds n):=by
 have e:∀k,k<m+1->qv (rtI us ds m n k)=(if k=n+1 then qv (upQ us m n)else 0)+(if k=n - 1 then qv (dnQ ds n)else 0):=fun k hk=>by
  rw[rt_at us ds hn (by omega)]
  by_cases h1:k=n+1
  ·rw[if_pos h1,if_pos h1,if_neg (by omega),Rat.add_zero]
  ·rw[if_neg h1,if_neg h1,Rat.zero_add]
   by_cases h2:n=k+1
   ·rw[if_pos h2,if_pos (by omega)]
   ·rw[if_neg h2,qv_zeroQ]
    by_cases h3:k=n - 1
    ·rw[if_pos h3];have:n=0:=by omega
     unfold dnQ;rw[if_pos this,qv_zeroQ]
    ·rw[if_neg h3]
 rw[sm_congr e,sm_add,sm_one (fun _=>qv (upQ us m n)) (n+1) (m+1),sm_one (fun _=>qv (dnQ ds n)) (n - 1) (m+1),if_pos (show n - 1<m+1 by omega)]
 by_cases h:n+1<m+1
 ·rw[if_pos h]
 ·rw[if_neg h];unfold upQ;rw[if_neg (by omega),qv_zeroQ]
end Go.Cm
end
section
set_option linter.unusedVariables false
namespace Go.Cm
def fQ (l:List Q3) (i:Nat):Q3:=l.getD i zeroQ
def jA (us ds:Nat->Q3) (m n k:Nat):Q3:=overQ (rtI us ds m n k) (sumQ (tab (m+1) (rtI us ds m n)))
def jmB (us ds:List ByteArray):Bool:=(lineQ us ds).2&&decide ((lineQ us ds).1.1.length<12)
def jmT (us ds:List ByteArray):(List (List ByteArray×Nat)×Nat)×Bool:=if jmB us ds=true then ownW (giveM (mat ((lineQ us ds).1.1.length+1) (jA (fQ (lineQ us ds).1.1) (fQ (lineQ us ds).1.2) (lineQ us ds).1.1.length)))else(([],0),false)
theorem jm_ok {us ds:List Q3} (hu:rates us) (hd:rates ds) (hl:us.length=ds.length) (h12:us.length<12) {n:Nat} (hn:n<=us.length):(∀k,k<us.length+1->low (rtI (fQ us) (fQ ds) us.length n k)/\below 200 (rtI (fQ us) (fQ ds) us.length n k))/\okq (sumQ (tab (us.length+1) (rtI (fQ us) (fQ ds) us.length n))):=by
 have h:∀k,k<us.length+1->low (rtI (fQ us) (fQ ds) us.length n k)/\below 200 (rtI (fQ us) (fQ ds) us.length n k):=fun k hk=>by
  unfold rtI;split
  ·rename_i c;have:=rates_get hu c.2;exact⟨this.1,this.2.1⟩
  ·split
   ·rename_i c;have:=rates_get hd (show k<ds.length by omega);exact⟨this.1,this.2.1⟩
   ·exact⟨zeroQ_low,zeroQ_below (by decide)⟩
 exact⟨h,row_ok (by omega) h⟩
theorem jm_pos {us ds:List Q3} (hu:rates us) (hd:rates ds) (hl:us.length=ds.length) (h0:0<us.length) (h12:us.length<12) {n:Nat} (hn:n<=us.length):(sumQ (tab (us.length+1) (rtI (fQ us) (fQ ds) us.length n))).2.1≠0:=by
 obtain⟨h,hs⟩:=jm_ok hu hd hl h12 hn;rw[ne_qv hs.1,(row_sum _ (Nat.le_refl _) h).2,rt_sm _ _ hn];have a:0<=qv (upQ (fQ us) us.length n)/\(n<us.length->0<qv (upQ (fQ us) us.length n)):=by
  unfold upQ;split
  ·rename_i c;have:=(rates_get hu c).2.2.2;exact⟨Rat.le_of_lt this,fun _=>this⟩
  ·exact⟨by rw[qv_zeroQ];exact Rat.le_refl,fun c=>absurd c (by assumption)⟩
 have b:0<=qv (dnQ (fQ ds) n)/\(0<n->0<qv (dnQ (fQ ds) n)):=by
  unfold dnQ;split
  ·exact⟨by rw[qv_zeroQ];exact Rat.le_refl,fun c=>by omega⟩
  ·have:=(rates_get hd (show n - 1<ds.length by omega)).2.2.2;exact⟨Rat.le_of_lt this,fun _=>this⟩
 by_cases c:n<us.length
 ·have:=a.2 c;grind
 ·have:=b.2 (by omega);grind
theorem up_ok {us:List Q3} (hu:rates us) (n:Nat):low (upQ (fQ us) us.length n)/\below 200 (upQ (fQ us) us.length n):=by
 unfold upQ;split
 ·rename_i c;have:=rates_get hu c;exact⟨this.1,this.2.1⟩
 ·exact⟨zeroQ_low,zeroQ_below (by decide)⟩
theorem dn_ok {ds:List Q3} (hd:rates ds) {n:Nat} (hn:n<=ds.length):low (dnQ (fQ ds) n)/\below 200 (dnQ (fQ ds) n):=by
 unfold dnQ;split
 ·exact⟨zeroQ_low,zeroQ_below (by decide)⟩
 ·have:=rates_get hd (show n - 1<ds.length by omega);exact⟨this.1,this.2.1⟩
theorem jm_sum {us ds:List Q3} (hu:rates us) (hd:rates ds) (hl:us.length=ds.length) (h12:us.length<12) {n:Nat} (hn:n<=us.length):sumQ (tab (us.length+1) (rtI (fQ us) (fQ ds) us.length n))=addQ (upQ (fQ us) us.length n) (dnQ (fQ ds) n):=by
 obtain⟨h,hs⟩:=jm_ok hu hd hl h12 hn;have a:=up_ok hu n;have b:=dn_ok hd (n:=n) (by omega);apply qv_inj hs.1 (addQ_low _ _ a.1 b.1);rw[(row_sum _ (Nat.le_refl _) h).2,rt_sm _ _ hn,qv_add a.1 b.1]
theorem over_zero {s:Q3} (hs:low s) (h0:s.2.1≠0):overQ zeroQ s=zeroQ:=by
 apply qv_inj (overQ_low _ _ zeroQ_low hs h0) zeroQ_low;rw[qv_over zeroQ_low hs h0,qv_zeroQ,Rat.div_def,Rat.zero_mul]
theorem jA_at {us ds:List Q3} (hu:rates us) (hd:rates ds) (hl:us.length=ds.length) (h0:0<us.length) (h12:us.length<12) {n k:Nat} (hn:n<=us.length) (hk:k<=us.length):jA (fQ us) (fQ ds) us.length n k=if k=n+1 then overQ (upQ (fQ us) us.length n) (addQ (upQ (fQ us) us.length n) (dnQ (fQ ds) n))else if n=k+1 then overQ (dnQ (fQ ds) n) (addQ (upQ (fQ us) us.length n) (dnQ (fQ ds) n))else zeroQ:=by
 have h2:=jm_ok hu hd hl h12 hn;have h3:=jm_pos hu hd hl h0 h12 hn;unfold jA;rw[jm_sum hu hd hl h12 hn]at h2 h3 ⊢;rw[rt_at _ _ hn hk];split
 ·rfl
 ·split
  ·rfl
  ·exact over_zero h2.2.1 h3
theorem jm_okM {us ds:List Q3} (hu:rates us) (hd:rates ds) (hl:us.length=ds.length) (h0:0<us.length) (h12:us.length<12):okM (mat (us.length+1) (jA (fQ us) (fQ ds) us.length)):=okM_mat (by omega) fun i hi j hj=>by
 obtain⟨k1,k2⟩:=jm_ok hu hd hl h12 (n:=i) (by omega);have k3:=jm_pos hu hd hl h0 h12 (n:=i) (by omega);have kb:=sumQ_below 200 (us.length+1) (tab (us.length+1) (rtI (fQ us) (fQ ds) us.length i)) (tab_len _ _) fun r hr=>by
  obtain⟨j,hj,rfl⟩:=tab_mem.1 hr;exact(k1 j hj).2
 exact⟨overQ_low _ _ (k1 j hj).1 k2.1 k3,below_mono (show 200+((200+1)*(us.length+1)+1)<=350000000 by omega) (overQ_below (k1 j hj).2 kb)⟩
end Go.Cm
end
section
set_option linter.unusedVariables false
namespace Go.Cm
end Go.Cm
end
section
set_option linter.unusedVariables false
namespace Go.Cm
end Go.Cm
end
