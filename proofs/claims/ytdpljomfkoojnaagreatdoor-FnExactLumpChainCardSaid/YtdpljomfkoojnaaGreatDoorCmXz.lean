import Derived.Test.YtdpljomfkoojnaaGreatDoorCmQz
section
set_option linter.unusedVariables false
namespace Go.Cm
def sm:Nat->(Nat->Rat)->Rat
 |0,_=>0
 |n+1,f=>sm n f+f n
def hd (D H:Nat) (r:Q3):Prop:=low r/\0<D/\∃z:Int,qv r*(D:Rat)=(z:Rat)/\z.natAbs<=H
def mq (M:List (List Q3)):Nat->Nat->Q3:=fun i j=>(M.getD i []).getD j zeroQ
theorem ch_at {M:List (List Q3)} (h:isCh M) {i j:Nat} (hi:i<M.length) (hj:j<M.length):low (mq M i j)/\below 200 (mq M i j)/\(mq M i j).1=false:=by
 have e:M.getD i []=M[i]:=by simp [List.getD_eq_getElem?_getD,hi]
 obtain⟨_,h2,h3⟩:=h;obtain⟨h4,h5⟩:=h2.2 _ (List.getElem_mem hi);obtain⟨h6,_⟩:=h3 _ (List.getElem_mem hi);unfold mq;rw[e];have hj':j<M[i].length:=by omega
 have e2:M[i].getD j zeroQ=M[i][j]:=by simp [List.getD_eq_getElem?_getD,hj']
 rw[e2];exact⟨(h6 _ (List.getElem_mem hj')).1,(h6 _ (List.getElem_mem hj')).2,h5 _ (List.getElem_mem hj')⟩
end Go.Cm
end
section
set_option linter.unusedVariables false
namespace Go.Cm
def sw (k l i:Nat):Nat:=if i=k then l else if i=l then k else i
def pvF (p:Nat->Bool):Nat->Nat->Nat
 |0,i=>i
 |f+1,i=>if p i=true then i else pvF p f (i+1)
def pvt (a:Nat->Nat->Q3) (n k:Nat):Nat:=pvF (fun i=>decide ((a i k).2.1≠0)) (n - k) k
def elE (a:Nat->Nat->Q3) (k i j:Nat):Q3:=addQ (a i j) (oppQ (mulQ (overQ (a i k) (a k k)) (a k j)))
def elF (full:Bool) (a:Nat->Nat->Q3) (k:Nat):Nat->Nat->Q3:=fun i j=>
 if(k<i\/full=true/\i≠k)/\(a i k).2.1≠0/\k<=j then elE a k i j else a i j
def swQ (a:Nat->Nat->Q3) (k l:Nat):Nat->Nat->Q3:=fun i=>a (sw k l i)
def elim (full:Bool) (n:Nat) (a:Nat->Nat->Q3):Nat->Nat->Nat->Q3
 |0=>a
 |k+1=>elF full (swQ (elim full n a k) k (pvt (elim full n a k) n k)) k
def vals (a:Nat->Nat->Q3):Nat->Nat->Rat:=fun i j=>qv (a i j)
end Go.Cm
end
section
set_option linter.unusedVariables false
namespace Go.Cm
def sbQ (a:Nat->Nat->Q3) (b:Nat->Q3) (k:Nat):Nat->Q3
 |0=>b k
 |t+1=>addQ (sbQ a b k t) (oppQ (mulQ (a k (k+1+t)) (b (k+1+t))))
def bkQ (a:Nat->Nat->Q3) (n:Nat):Nat->Nat->Q3
 |0=>fun i=>a i n
 |m+1=>fun i=>if i=n - 1 - m then overQ (sbQ a (bkQ a n m) (n - 1 - m) m) (a (n - 1 - m) (n - 1 - m))else bkQ a n m i
def eB (H m:Nat):Nat:=(12*(H*H))^m
def solI (a:Nat->Nat->Q3) (n:Nat):Nat->Q3:=bkQ (elim false n a n) n n
def ext (n:Nat) (x:Nat->Rat):Nat->Rat:=fun j=>if j=n then -1 else x j
end Go.Cm
end
section
set_option linter.unusedVariables false
namespace Go.Cm
inductive Rch (A:Nat->Nat->Bool) (n s:Nat):Nat->Prop where
 |refl:Rch A n s s
 |step {i j:Nat} :Rch A n s i->i<n->j<n->A i j=true->Rch A n s j
theorem Rch.trans {A:Nat->Nat->Bool} {n s i j:Nat} (h:Rch A n s i) (k:Rch A n i j):Rch A n s j:=by
 induction k with
 |refl=>exact h
 |step _ a b c ih=>exact .step ih a b c
theorem Rch.lt {A:Nat->Nat->Bool} {n s i:Nat} (h:Rch A n s i) (hs:s<n):i<n:=by
 cases h with
 |refl=>exact hs
 |step _ _ b _=>exact b
structure Bin (A:Nat->Nat->Bool) (n s:Nat) (sn:List Bool) (td:List Nat):Prop where
 ok:Bok n (sn,td)
 sound:∀j,sn.getD j false=true->Rch A n s j
 todo:∀t∈td,sn.getD t false=true
 done:∀i,i<n->sn.getD i false=true->i∈td\/∀j,j<n->A i j=true->sn.getD j false=true
theorem getDset {sn:List Bool} {i j:Nat} (h:i<sn.length):(sn.set i true).getD j false=(decide (j=i)||sn.getD j false):=by
 rw[List.getD_eq_getElem?_getD,List.getD_eq_getElem?_getD,List.getElem?_set]
 by_cases e:i=j
 ·subst e;simp [h]
 ·rw[if_neg e,decide_eq_false (fun q=>e q.symm),Bool.false_or]
theorem fold_in {A:Nat->Nat->Bool} {n s i:Nat} {sn:List Bool} {td:List Nat} (hi:i<n) (hs:sn.getD i false=true) (h:Bin A n s sn (i::td)):∀k,k<=n->
  Bok n ((List.range k).foldl (stepB (A i)) (sn,td))/\(∀j,((List.range k).foldl (stepB (A i)) (sn,td)).1.getD j false=true->Rch A n s j)/\(∀t∈((List.range k).foldl (stepB (A i)) (sn,td)).2,((List.range k).foldl (stepB (A i)) (sn,td)).1.getD t false=true)/\
  (∀j,sn.getD j false=true->((List.range k).foldl (stepB (A i)) (sn,td)).1.getD j false=true)/\(∀j,j<k->A i j=true->((List.range k).foldl (stepB (A i)) (sn,td)).1.getD j false=true)/\
  (∀t∈td,t∈((List.range k).foldl (stepB (A i)) (sn,td)).2)/\(∀j,((List.range k).foldl (stepB (A i)) (sn,td)).1.getD j false=true->sn.getD j false=true\/j∈((List.range k).foldl (stepB (A i)) (sn,td)).2)
 |0,_=>⟨⟨h.ok.len,fun t ht=>h.ok.lt t (List.mem_cons_of_mem _ ht)⟩,h.sound,fun t ht=>h.todo t (List.mem_cons_of_mem _ ht),fun _ q=>q,fun j hj=>by omega,fun _ q=>q,fun _ q=>Or.inl q⟩
 |k+1,hk=>by
  obtain⟨a1,a2,a3,a4,a5,a6,a7⟩:=fold_in hi hs h k (by omega);rw[fold_succ];generalize (List.range k).foldl (stepB (A i)) (sn,td)=p at*;have b1:=(stepB_ok (a:=A i) (j:=k) (by omega) a1).1;have hl:k<p.1.length:=by rw[a1.len];omega
  unfold stepB at b1 ⊢
  by_cases hc:A i k=true/\p.1.getD k false=false
  ·rw[if_pos hc]at b1 ⊢;refine⟨b1,fun j hj=> ?_,fun t ht=> ?_,fun j hj=> ?_,fun j hj ha=> ?_,fun t ht=>List.mem_append_left _ (a6 t ht),fun j hj=> ?_⟩
   ·dsimp only at hj;rw[getDset hl,Bool.or_eq_true,decide_eq_true_iff]at hj;rcases hj with rfl|hj
    ·exact .step (h.sound i hs) hi (by omega) hc.1
    ·exact a2 j hj
   ·dsimp only at ht ⊢;rw[getDset hl,Bool.or_eq_true,decide_eq_true_iff];rcases List.mem_append.1 ht with ht|ht
    ·exact Or.inr (a3 t ht)
    ·exact Or.inl (by simpa using ht)
   ·dsimp only;rw[getDset hl,a4 j hj,Bool.or_true]
   ·dsimp only;rw[getDset hl,Bool.or_eq_true,decide_eq_true_iff]
    by_cases e:j=k
    ·exact Or.inl e
    ·exact Or.inr (a5 j (by omega) ha)
   ·dsimp only at hj ⊢;rw[getDset hl,Bool.or_eq_true,decide_eq_true_iff]at hj;rcases hj with rfl|hj
    ·exact Or.inr (by simp)
    ·rcases a7 j hj with q|q
     ·exact Or.inl q
     ·exact Or.inr (List.mem_append_left _ q)
  ·rw[if_neg hc]at b1 ⊢;refine⟨b1,a2,a3,a4,fun j hj ha=> ?_,a6,a7⟩
   by_cases e:j=k
   ·subst e;cases hv:p.1.getD j false
    ·exact(hc ⟨ha,hv⟩).elim
    ·rfl
   ·exact a5 j (by omega) ha
theorem bfs_in {A:Nat->Nat->Bool} {n s:Nat} :∀(f:Nat) (sn:List Bool) (td:List Nat),Bin A n s sn td->td.length+sn.count false<=f->(∀j,(bfs A n f sn td).getD j false=true->Rch A n s j)/\(∀j,sn.getD j false=true->(bfs A n f sn td).getD j false=true)/\∀i,i<n->(bfs A n f sn td).getD i false=true->∀j,j<n->A i j=true->(bfs A n f sn td).getD j false=true
 |0,sn,td,h,hm=>by
  have:td=[]:=List.eq_nil_of_length_eq_zero (by omega);subst this;exact⟨h.sound,fun _ q=>q,fun i hi hs=>(h.done i hi hs).resolve_left (by simp)⟩
 |f+1,sn,[],h,hm=>⟨h.sound,fun _ q=>q,fun i hi hs=>(h.done i hi hs).resolve_left (by simp)⟩
 |f+1,sn,i::r,h,hm=>by
  have hi:i<n:=h.ok.lt i (List.mem_cons_self ..);have hs:=h.todo i (List.mem_cons_self ..);have h':Bok n (sn,r):=⟨h.ok.len,fun t ht=>h.ok.lt t (List.mem_cons_of_mem _ ht)⟩
  obtain⟨a1,a2,a3,a4,a5,a6,a7⟩:=fold_in hi hs h n (Nat.le_refl _);obtain⟨_,c2⟩:=foldB_ok (a:=A i) h' n (Nat.le_refl _);obtain⟨q1,q2,q3⟩:=bfs_in f (scanB (A i) n (sn,r)).1 (scanB (A i) n (sn,r)).2 ⟨a1,a2,a3,fun t ht hv=>by
   by_cases e:t=i
   ·subst e;exact Or.inr a5
   ·rcases a7 t hv with q|q
    ·rcases h.done t ht q with u|u
     ·rcases List.mem_cons.1 u with u|u
      ·exact(e u).elim
      ·exact Or.inl (a6 t u)
     ·exact Or.inr fun j hj ha=>a4 j (u j hj ha)
    ·exact Or.inl q⟩ (by
   rw[List.length_cons]at hm;have:(scanB (A i) n (sn,r)).2.length+(scanB (A i) n (sn,r)).1.count false=r.length+sn.count false:=c2;omega)
  exact⟨q1,fun j hj=>q2 j (a4 j hj),q3⟩
theorem reachB_iff {A:Nat->Nat->Bool} {n s:Nat} (hs:s<n) (j:Nat):(reachB A n s).getD j false=true↔Rch A n s j:=by
 obtain⟨c1,c2⟩:=start_ok hs;have hl:s<(List.replicate n false).length:=by simpa using hs
 have e:∀j,((List.replicate n false).set s true).getD j false=decide (j=s):=fun j=>by
  rw[getDset hl];have:(List.replicate n false).getD j false=false:=by
   rw[List.getD_eq_getElem?_getD,List.getElem?_replicate];split<;>rfl
  rw[this,Bool.or_false]
 obtain⟨q1,q2,q3⟩:=bfs_in (A:=A) (s:=s) n _ _ ⟨c1,fun j hj=>by
  rw[e,decide_eq_true_iff]at hj;subst hj;exact .refl,fun t ht=>by
  rw[e];simpa using ht,fun i hi hv=>by
  rw[e,decide_eq_true_iff]at hv;exact Or.inl (by simp [hv])⟩ (Nat.le_of_eq c2)
 refine⟨q1 j,fun h=> ?_⟩
 induction h with
 |refl=>exact q2 s (by rw[e];simp)
 |step _ a b c ih=>exact q3 _ a ih _ b c
end Go.Cm
end
section
set_option linter.unusedVariables false
namespace Go.Cm
structure Cin (R:Nat->Nat->Bool) (n k:Nat) (s:List Int×List Bool):Prop where
 len:s.1.length=n
 cnt:s.2.length<=k
 num:∀j,j<n->s.1.getD j (-1)= -1\/0<=s.1.getD j (-1)/\s.1.getD j (-1)<(s.2.length:Int)
 rep:∀c,c<s.2.length->∃r,r<n/\(∀j,j<n->(s.1.getD j (-1)=(c:Int)↔R r j=true/\R j r=true))/\(s.2.getD c false=true↔∀j,j<n->R r j=true->R j r=true)
 all:∀j,j<k->0<=s.1.getD j (-1)
theorem cls_in {R:Nat->Nat->Bool} {n:Nat} (hr:∀i,i<n->R i i=true) (ht:∀i j k,i<n->j<n->k<n->R i j=true->R j k=true->R i k=true):∀k,k<=n->Cin R n k ((List.range k).foldl (clsStep R n) (List.replicate n (-1),[]))
 |0,_=>by
  have e:∀j,j<n->(List.replicate n (-1:Int)).getD j (-1)= -1:=fun j hj=>by simp [List.getD_eq_getElem?_getD,hj]
  exact⟨by simp,Nat.le_refl _,fun j hj=>Or.inl (e j hj),fun c hc=>by simp at hc,fun j hj=>by omega⟩
 |k+1,hk=>by
  have ih:=cls_in hr ht k (by omega);rw[fold_succ];generalize (List.range k).foldl (clsStep R n) (List.replicate n (-1),[])=s at ih ⊢;unfold clsStep
  by_cases h0:0<=s.1.getD k (-1)
  ·rw[if_pos h0]
   exact⟨ih.len,by have:=ih.cnt;omega,ih.num,ih.rep,fun j hj=>by
    by_cases e:j=k
    ·subst e;exact h0
    ·exact ih.all j (by omega)⟩
  ·rw[if_neg h0];have hk':k<n:=by omega
   have hlen:=ih.cnt;have hm1:s.1.getD k (-1)= -1:=(ih.num k hk').resolve_right fun q=>h0 q.1
   have hg:∀j,j<n->(tab n fun j=>if(R k j&&R j k)=true then(s.2.length:Int)else s.1.getD j (-1)).getD j (-1)=if(R k j&&R j k)=true then(s.2.length:Int)else s.1.getD j (-1):=fun j hj=>tab_getD _ _ hj
   have hfree:∀c,c<s.2.length->∀j,j<n->R k j=true->R j k=true->s.1.getD j (-1)≠(c:Int):=fun c hc j hj h1 h2 e=>by
    obtain⟨r,r1,r2,_⟩:=ih.rep c hc;obtain⟨a,b⟩:=(r2 j hj).1 e;have:s.1.getD k (-1)=(c:Int):=(r2 k hk').2 ⟨ht r j k r1 hj hk' a h2,ht k j r hk' hj r1 h1 b⟩;omega
   refine⟨tab_len _ _,by simp;omega,fun j hj=> ?_,fun c hc=> ?_,fun j hj=> ?_⟩
   ·dsimp only;rw[hg j hj];simp only[List.length_append,List.length_cons,List.length_nil];split
    ·right;omega
    ·rcases ih.num j hj with q|q
     ·exact Or.inl q
     ·right;omega
   ·simp only[List.length_append,List.length_cons,List.length_nil]at hc
    by_cases hcl:c<s.2.length
    ·obtain⟨r,r1,r2,r3⟩:=ih.rep c hcl;refine⟨r,r1,fun j hj=> ?_,?_⟩
     ·dsimp only;rw[hg j hj]
      by_cases hm:(R k j&&R j k)=true
      ·rw[if_pos hm];rw[Bool.and_eq_true]at hm;constructor
       ·intro e;omega
       ·intro e;exact(hfree c hcl j hj hm.1 hm.2 ((r2 j hj).2 e)).elim
      ·rw[if_neg hm];exact r2 j hj
     ·have:(s.2++[(List.range n).all fun j=> !R k j||R j k]).getD c false=s.2.getD c false:=by
       rw[List.getD_eq_getElem?_getD,List.getD_eq_getElem?_getD,List.getElem?_append_left hcl]
      dsimp only;rw[this];exact r3
    ·have hce:c=s.2.length:=by omega
     subst hce;refine⟨k,hk',fun j hj=> ?_,?_⟩
     ·dsimp only;rw[hg j hj]
      by_cases hm:(R k j&&R j k)=true
      ·rw[if_pos hm];rw[Bool.and_eq_true]at hm;exact⟨fun _=>hm,fun _=>rfl⟩
      ·rw[if_neg hm];constructor
       ·intro e;rcases ih.num j hj with q|q<;>omega
       ·intro e;exact(hm (by rw[Bool.and_eq_true];exact e)).elim
     ·have:(s.2++[(List.range n).all fun j=> !R k j||R j k]).getD s.2.length false=(List.range n).all fun j=> !R k j||R j k:=by
       rw[List.getD_eq_getElem?_getD,List.getElem?_append_right (Nat.le_refl _)];simp
      dsimp only;rw[this,List.all_eq_true];constructor
      ·intro h j hj h1;have:=h j (List.mem_range.2 hj);rw[h1]at this;simpa using this
      ·intro h j hj;have:=h j (List.mem_range.1 hj);cases hv:R k j
       ·rfl
       ·rw[this hv];rfl
   ·dsimp only;rw[hg j (by omega)]
    by_cases e:j=k
    ·subst e;rw[hr j hk'];simp
    ·have:=ih.all j (by omega);split<;>omega
def cut (m:Nat->Nat->Rat) (k:Nat):Nat->Nat->Rat:=fun i j=>m i j+m i k/sm k (m k)*m k j
end Go.Cm
end
section
set_option linter.unusedVariables false
namespace Go.Cm
def hB (c t:Nat):Nat:=10^(2^t*c - 2)
end Go.Cm
end
section
set_option linter.unusedVariables false
namespace Go.Cm
theorem RB_iff {M:List (List Q3)} {i:Nat} (hi:i<M.length) (j:Nat):rcB M i j=true↔Rch (adj M) M.length i j:=reachB_iff hi j
theorem RB_refl (M:List (List Q3)):∀i,i<M.length->rcB M i i=true:=fun i hi=>(RB_iff hi i).2 .refl
theorem RB_trans (M:List (List Q3)):∀i j k,i<M.length->j<M.length->k<M.length->rcB M i j=true->rcB M j k=true->rcB M i k=true:=fun i j k hi hj _ h1 h2=>(RB_iff hi k).2 (((RB_iff hi j).1 h1).trans ((RB_iff hj k).1 h2))
theorem cls_ok (M:List (List Q3)):Cin (rcB M) M.length M.length (clsM M):=cls_in (RB_refl M) (RB_trans M) M.length (Nat.le_refl _)
end Go.Cm
end
section
set_option linter.unusedVariables false
namespace Go.Cm
def subQ (M:List (List Q3)) (c:Nat->Bool):Nat->Nat->Q3:=fun a b=>mq M ((fl c M.length).getD a 0) ((fl c M.length).getD b 0)
end Go.Cm
end
section
set_option linter.unusedVariables false
namespace Go.Cm
def hA (M:List (List Q3)) (tu:Bool) (c:Nat->Bool) (g:Nat->Q3):Nat->Nat->Q3:=fun a b=>
 if b=(fl c M.length).length then g ((fl c M.length).getD a 0)
 else if a=b then addQ (oppQ (if tu=true then subQ M c b a else subQ M c a b)) oneQ else oppQ (if tu=true then subQ M c b a else subQ M c a b)
end Go.Cm
end
section
set_option linter.unusedVariables false
namespace Go.Cm
theorem om_num {B c:Nat} {a:Nat->Q3} {j:Nat} (h:j<c) (d:Bool×(List Int×List Int)):((tab c a).map (rp B)).getD j d=rp B (a j):=by
 rw[List.getD_eq_getElem?_getD,List.getElem?_map,List.getElem?_eq_getElem (by rw[tab_len];exact h),tab_get _ h];rfl
def okq (q:Q3):Prop:=low q/\below 350000000 q
end Go.Cm
end
section
set_option linter.unusedVariables false
namespace Go.Cm
end Go.Cm
end
section
set_option linter.unusedVariables false
namespace Go.Cm
theorem joinH_hd0 {α:Type} (m l:List (List α×Nat)):joinH (in0 m).length (hd0 m) (hd0 l)=hd0 (m++l):=by
 unfold joinH hd0;rw[in0_length,List.mapIdx_append];congr 1;apply List.ext_getElem
 ·simp
 ·intro i h1 h2;simp
theorem in0_snoc {α:Type} (m:List (List α×Nat)) (v:List α) (c:Nat):in0 m++[v]=in0 (m++[(v,c)]):=by
 unfold in0;simp
theorem tabm_snoc (B a:Nat) (f:Nat->Q3):(tab a f).map (rp B)++[rp B (f a)]=(tab (a+1) f).map (rp B):=by
 rw[tab_succ,List.map_append];rfl
theorem len_one {α:Type} {xs:List α} (h:xs.length=1):∃x,xs=[x]:=List.length_eq_one_iff.1 h
theorem mq_held {B:Nat} {M:List (List Q3)} (h:isM M) {i j:Nat} (hi:i<M.length) (hj:j<M.length):((mp B M).getD i []).getD j (false,(([]:List Int),([]:List Int)))=rp B (mq M i j):=by
 rw[mp_at hi,getD_rp B (by rw[(isM_row h hi).1];exact hj)];rfl
theorem mq_wide {B:Nat} {M:List (List Q3)} (h:isM M) {i:Nat} (hi:i<M.length):((mp B M).getD i []).length=M.length:=by
 rw[mp_at hi,List.length_map,(isM_row h hi).1]
theorem tab_rep {α:Type} (n:Nat) (x:α):List.replicate n x=tab n fun _=>x:=by
 unfold tab;rw[List.map_const',List.length_range]
end Go.Cm
end
section
set_option linter.unusedVariables false
namespace Go.Cm
end Go.Cm
end
section
set_option linter.unusedVariables false
namespace Go.Cm
end Go.Cm
end
section
set_option linter.unusedVariables false
namespace Go.Cm
def giveM (M:List (List Q3)):List (List ByteArray)×Bool:=if(M.all fun r=>r.all fitN)=true then(M.map fun r=>(giveL r).1,true)else([],false)
def ownW (c:List (List ByteArray)×Bool):(List (List ByteArray×Nat)×Nat)×Bool:=((c.1.map fun r=>(r,r.length),c.1.length),c.2)
theorem own_app {α:Type} {m:List (List α×Nat)} {v:List α} {c:Nat} :(dup ((joinH (in0 m).length (hd0 m) (hd0 [(v,c)])).map fun y=>y.1)=false)/\nrm (joinH (in0 m).length (hd0 m) (hd0 [(v,c)])) (in0 m++[v])=m++[(v,c)]:=by
 rw[joinH_hd0];refine⟨hd0_dup _,?_⟩;rw[in0_snoc _ _ c,nrm_hd0]
theorem giveL_fit {r:List Q3} :(giveL r).2=r.all fitN:=by
 unfold giveL;cases h:r.all fitN
 ·rfl
 ·rfl
def okM (M:List (List Q3)):Prop:=M.length<=12/\∀r∈M,r.length<=12/\∀q∈r,okq q
theorem okM_rok {B:Nat} (hB:10^9<=B) {r:List Q3} (h:∀q∈r,okq q):(r.map (rp B)).all (rok B 40000000)=true:=all_rok hB (by decide:350000000<=350000000) h
end Go.Cm
end
section
set_option linter.unusedVariables false
namespace Go.Cm
def oneK (M:List (List Q3)):Bool:=decide ((clsM M).2.length=1)
theorem oneK_iff {M:List (List Q3)} (h:isCh M):oneK M=true↔∀i,i<M.length->(clsM M).1.getD i 0=0:=by
 have ok:=cls_ok M;have h0:=h.1;have hd:∀i,i<M.length->(clsM M).1.getD i 0=(clsM M).1.getD i (-1):=fun i hi=>by
  have hl:=ok.len;rw[List.getD_eq_getElem?_getD,List.getD_eq_getElem?_getD,List.getElem?_eq_getElem (by omega)];rfl
 unfold oneK;rw[decide_eq_true_eq];constructor
 ·intro h1 i hi;rw[hd i hi];have a:=ok.all i hi;have b:=ok.num i hi;rw[h1]at b;omega
 ·intro h1;have hpos:0<(clsM M).2.length:=by
   have a:=ok.all 0 (by omega);have b:=ok.num 0 (by omega);rcases b with b|b<;>omega
  apply Classical.byContradiction;intro h2;obtain⟨r,r1,r2,_⟩:=ok.rep 1 (by omega);have:=(r2 r r1).2 ⟨RB_refl M r r1,RB_refl M r r1⟩;rw[<-hd r r1,h1 r r1]at this;exact absurd this (by decide)
theorem one_pos {M:List (List Q3)} (h:isCh M) (h1:oneK M=true):posF 0 (clsM M).2=[0]:=by
 have ok:=cls_ok M;unfold oneK at h1;rw[decide_eq_true_eq]at h1;obtain⟨b,hb⟩:=len_one h1;obtain⟨r,r1,r2,r3⟩:=ok.rep 0 (by omega);have h2:=(oneK_iff h).1 (by unfold oneK;rw[h1];rfl);have hd:∀i,i<M.length->(clsM M).1.getD i (-1)=0:=fun i hi=>by
  have a:=ok.all i hi;have b:=ok.num i hi;rw[h1]at b;omega
 have:(clsM M).2.getD 0 false=true:=r3.2 fun j hj hr=>((r2 j hj).1 (by rw[hd j hj];rfl)).2
 rw[hb]at this ⊢;have hbt:b=true:=this;rw[hbt];rfl
end Go.Cm
end
section
set_option linter.unusedVariables false
namespace Go.Cm
theorem drop_eq {α:Type} [DecidableEq α] {xs ys:List α} {i:Nat} (hx:i<xs.length) (hy:i<ys.length):decide (xs.drop i=ys.drop i)=(decide (xs[i]=ys[i])&&decide (xs.drop (i+1)=ys.drop (i+1))):=by
 rw[List.drop_eq_getElem_cons hx,List.drop_eq_getElem_cons hy,Bool.eq_iff_iff,Bool.and_eq_true,decide_eq_true_eq,decide_eq_true_eq,decide_eq_true_eq,List.cons.injEq]
end Go.Cm
end
section
set_option linter.unusedVariables false
namespace Go.Cm
theorem tabm_set {B n i:Nat} {r:Nat->Q3} (q:Q3):((tab n r).map (rp B)).set i (rp B q)=(tab n fun x=>if x=i then q else r x).map (rp B):=by
 rw[tab_map,tab_set,tab_map];apply tab_congr;intro x hx;split<;>rfl
end Go.Cm
end
section
set_option linter.unusedVariables false
namespace Go.Cm
def inC (M:List (List Q3)) (tg:Nat->Bool) (i:Nat):Bool:= !tg i&&(List.range M.length).any fun j=>rcB M i j&&tg j
def toQ (M:List (List Q3)) (tg:Nat->Bool) (i:Nat):Nat->Q3
 |0=>zeroQ
 |k+1=>if tg k=true then addQ (toQ M tg i k) (mq M i k)else toQ M tg i k
def hiA (M:List (List Q3)) (tg:Nat->Bool):Nat->Nat->Q3:=hA M false (inC M tg) fun i=>toQ M tg i M.length
end Go.Cm
end
section
set_option linter.unusedVariables false
namespace Go.Cm
theorem mul_zero {q:Q3} (h:low q):mulQ q zeroQ=zeroQ:=by
 apply qv_inj (mulQ_low _ _ h zeroQ_low) zeroQ_low;rw[qv_mul h zeroQ_low,qv_zeroQ];grind
theorem mul_one {q:Q3} (h:low q):mulQ q oneQ=q:=by
 apply qv_inj (mulQ_low _ _ h oneQ_low) h;rw[qv_mul h oneQ_low,qv_oneQ];grind
end Go.Cm
end
section
set_option linter.unusedVariables false
namespace Go.Cm
end Go.Cm
end
section
set_option linter.unusedVariables false
namespace Go.Cm
end Go.Cm
end
section
set_option linter.unusedVariables false
namespace Go.Cm
def hQ (M:List (List Q3)) (tg:Nat->Bool) (j:Nat):Q3:=if inC M tg j=true then solI (hiA M tg) (fl (inC M tg) M.length).length (ix (inC M tg) j)else if tg j=true then oneQ else zeroQ
end Go.Cm
end
section
set_option linter.unusedVariables false
namespace Go.Cm
theorem zero_mul {q:Q3} (h:low q):mulQ zeroQ q=zeroQ:=by
 apply qv_inj (mulQ_low _ _ zeroQ_low h) zeroQ_low;rw[qv_mul zeroQ_low h,qv_zeroQ];grind
end Go.Cm
end
section
set_option linter.unusedVariables false
namespace Go.Cm
end Go.Cm
end
section
set_option linter.unusedVariables false
namespace Go.Cm
end Go.Cm
end
section
set_option linter.unusedVariables false
namespace Go.Cm
end Go.Cm
end
section
set_option linter.unusedVariables false
namespace Go.Cm
end Go.Cm
end
section
set_option linter.unusedVariables false
namespace Go.Cm
end Go.Cm
end
section
set_option linter.unusedVariables false
namespace Go.Cm
end Go.Cm
end
section
set_option linter.unusedVariables false
namespace Go.Cm
end Go.Cm
end
section
set_option linter.unusedVariables false
namespace Go.Cm
def inP (n:Int):Bool:=decide (0<=n/\n<=11)
def mxI:Int->List Int->Int
 |m,[]=>m
 |m,p::ps=>mxI (if m<p then p else m) ps
theorem mxI_snoc:∀(m:Int) (ps:List Int) (p:Int),mxI m (ps++[p])=if mxI m ps<p then p else mxI m ps
 |m,[],p=>rfl
 |m,q::ps,p=>mxI_snoc _ ps p
theorem mxI_bnd:∀ {m:Int} {ps:List Int},ps.all inP=true->m<=11->m<=mxI m ps/\mxI m ps<=11
 |m,[],_,h=>⟨Int.le_refl _,h⟩
 |m,p::ps,ha,h=>by
  rw[List.all_cons,Bool.and_eq_true]at ha;have hp:=of_decide_eq_true ha.1;obtain⟨a,b⟩:=mxI_bnd (m:=if m<p then p else m) ha.2 (by split<;>omega);refine⟨?_,b⟩;show m<=mxI (if m<p then p else m) ps;split at a<;>split<;>omega
theorem mxI_neg {ps:List Int} (ha:ps.all inP=true) (h0:ps≠ []):mxI (-1) ps=mxI 0 ps:=by
 cases ps with
 |nil=>exact absurd rfl h0
 |cons p ps=>
  rw[List.all_cons,Bool.and_eq_true]at ha;have hp:=of_decide_eq_true ha.1;show mxI (if -1<p then p else -1) ps=mxI (if 0<p then p else 0) ps;congr 1;split<;>split<;>omega
def hasAll (ps:List Int) (n:Nat):Bool:=(List.range n).all fun k=>decide ((k:Int)∈ps)
def pkN (ps:List Int) (m:Nat):Nat:=if ps.length=m/\ps.all inP=true/\hasAll ps (mxI 0 ps+1).toNat=true then(mxI 0 ps+1).toNat else 0
end Go.Cm
end
section
set_option linter.unusedVariables false
namespace Go.Cm
def prt (ps:List Int) (i:Nat):Nat:=(ps.getD i 0).toNat
def lmS (M:List (List Q3)) (ps:List Int) (i k:Nat):Nat->Q3
 |0=>zeroQ
 |j+1=>if prt ps j=k then addQ (lmS M ps i k j) (mq M i j)else lmS M ps i k j
theorem lmS_ok {M:List (List Q3)} (h:isCh M) (ps:List Int) {i:Nat} (hi:i<M.length) (k:Nat):∀j,j<=M.length->low (lmS M ps i k j)/\below (201*j+1) (lmS M ps i k j)
 |0,_=>⟨zeroQ_low,zeroQ_below (by decide)⟩
 |j+1,hj=>by
  obtain⟨a,b⟩:=lmS_ok h ps hi k j (by omega);obtain⟨c,d,_⟩:=ch_at h hi (show j<M.length by omega);unfold lmS;split
  ·exact⟨addQ_low _ _ a c,below_mono (by omega) (addQ_below b d)⟩
  ·exact⟨a,below_mono (by omega) b⟩
theorem lmS_okq {M:List (List Q3)} (h:isCh M) (ps:List Int) {i:Nat} (hi:i<M.length) (k:Nat) {j:Nat} (hj:j<=M.length):okq (lmS M ps i k j):=by
 have h12:=h.2.1.1;obtain⟨a,b⟩:=lmS_ok h ps hi k j hj;exact⟨a,below_mono (by omega) b⟩
def lmR (M:List (List Q3)) (ps:List Int) (p i:Nat):List Q3:=tab p fun k=>lmS M ps i k M.length
def lst (ps:List Int) (k:Nat):Nat->Option Nat
 |0=>none
 |i+1=>if prt ps i=k then some i else lst ps k i
theorem lst_lt {ps:List Int} {k:Nat} :∀ {n i:Nat},lst ps k n=some i->i<n
 |n+1,i,h=>by
  unfold lst at h;split at h
  ·cases h;omega
  ·have:=lst_lt h;omega
def stp (M:List (List Q3)) (ps:List Int) (p i:Nat):Bool:=match lst ps (prt ps i) i with
 |none=>true
 |some j=>decide (lmR M ps p j=lmR M ps p i)
def lmF (M:List (List Q3)) (ps:List Int) (p i k:Nat):List Q3:=match lst ps k i with
 |none=>[]
 |some j=>lmR M ps p j
def lmO (B:Nat) (M:List (List Q3)) (ps:List Int) (p i:Nat):List (List (Bool×(List Int×List Int))×Nat):=tab p fun k=>((lmF M ps p i k).map (rp B),(lmF M ps p i k).length)
theorem lmO_len (B:Nat) (M:List (List Q3)) (ps:List Int) (p i:Nat):(lmO B M ps p i).length=p:=tab_len _ _
theorem lmR_len (M:List (List Q3)) (ps:List Int) (p i:Nat):(lmR M ps p i).length=p:=tab_len _ _
theorem lmO_zero (B:Nat) (M:List (List Q3)) (ps:List Int) (p:Nat):lmO B M ps p 0=List.replicate p ([],0):=by
 rw[tab_rep];rfl
theorem lmO_set {B:Nat} {M:List (List Q3)} {ps:List Int} {p i:Nat} :(lmO B M ps p i).set (prt ps i) ((lmR M ps p i).map (rp B),p)=lmO B M ps p (i+1):=by
 unfold lmO;rw[tab_set];apply tab_congr;intro k _;have e:lst ps k (i+1)=if prt ps i=k then some i else lst ps k i:=rfl
 by_cases h:k=prt ps i
 ·rw[if_pos h];have:lmF M ps p (i+1) k=lmR M ps p i:=by
   unfold lmF;rw[e,if_pos h.symm]
  rw[this,lmR_len]
 ·rw[if_neg h];have:lmF M ps p (i+1) k=lmF M ps p i k:=by
   unfold lmF;rw[e,if_neg fun e=>h e.symm]
  rw[this]
theorem lmO_hd {B:Nat} {M:List (List Q3)} {ps:List Int} {p i k:Nat} (h:k<p):(hd0 (lmO B M ps p i)).getD k (0,0)=(k,(lmF M ps p i k).length):=by
 have hl:k<(lmO B M ps p i).length:=by rw[lmO_len];exact h
 have hg:(lmO B M ps p i)[k]=((lmF M ps p i k).map (rp B),(lmF M ps p i k).length):=tab_get _ h;unfold hd0;rw[List.getD_eq_getElem?_getD,List.getElem?_mapIdx,List.getElem?_eq_getElem hl,hg];rfl
theorem lmO_in {B:Nat} {M:List (List Q3)} {ps:List Int} {p i k:Nat} (h:k<p):(in0 (lmO B M ps p i)).getD k []=(lmF M ps p i k).map (rp B):=by
 have hl:k<(lmO B M ps p i).length:=by rw[lmO_len];exact h
 have hg:(lmO B M ps p i)[k]=((lmF M ps p i k).map (rp B),(lmF M ps p i k).length):=tab_get _ h;unfold in0;rw[List.getD_eq_getElem?_getD,List.getElem?_map,List.getElem?_eq_getElem hl,hg];rfl
def lmM (M:List (List Q3)) (ps:List Int) (p:Nat):List (List Q3):=tab p fun k=>lmF M ps p M.length k
theorem lmF_row {M:List (List Q3)} {ps:List Int} {p i k:Nat} (h:lmF M ps p i k≠ []):∃j,j<i/\lst ps k i=some j/\lmF M ps p i k=lmR M ps p j:=by
 unfold lmF at h ⊢;cases hl:lst ps k i with
 |none=>rw[hl]at h;exact absurd rfl h
 |some j=>exact⟨j,lst_lt hl,rfl,rfl⟩
theorem lmM_ok {M:List (List Q3)} (h:isCh M) (ps:List Int) {p:Nat} (hp:p<=12):okM (lmM M ps p):=by
 refine⟨by unfold lmM;rw[tab_len];exact hp,fun r hr=> ?_⟩;obtain⟨k,hk,rfl⟩:=tab_mem.1 hr
 by_cases h0:lmF M ps p M.length k=[]
 ·rw[h0];exact⟨by simp,by simp⟩
 ·obtain⟨j,hj,_,he⟩:=lmF_row h0;rw[he];refine⟨by rw[lmR_len];exact hp,fun q hq=> ?_⟩;obtain⟨k',hk',rfl⟩:=tab_mem.1 hq;exact lmS_okq h ps hj k' (Nat.le_refl _)
theorem lmR_ok {M:List (List Q3)} (h:isCh M) (ps:List Int) {p i:Nat} (hi:i<M.length):∀q∈lmR M ps p i,okq q:=fun q hq=>by
 obtain⟨k',hk',rfl⟩:=tab_mem.1 hq;exact lmS_okq h ps hi k' (Nat.le_refl _)
theorem pkN_le (ps:List Int) (m:Nat):pkN ps m<=12:=by
 unfold pkN;split
 ·rename_i h;have:=mxI_bnd (m:=0) h.2.1 (by decide);omega
 ·omega
theorem mxI_mem:∀ {m:Int} {ps:List Int} {q:Int},q∈ps->q<=mxI m ps
 |m,p::ps,q,h=>by
  show q<=mxI (if m<p then p else m) ps;have mono:∀(m:Int) (ps:List Int),m<=mxI m ps:=by
   intro m ps
   induction ps generalizing m with
   |nil=>exact Int.le_refl _
   |cons a l ih=>
    have:=ih (if m<a then a else m);show m<=mxI (if m<a then a else m) l;split at this<;>split<;>omega
  rcases List.mem_cons.1 h with rfl|h
  ·have:=mono (if m<q then q else m) ps;split at this<;>split<;>omega
  ·exact mxI_mem h
theorem pkN_prt {ps:List Int} {m:Nat} (h:pkN ps m≠0) {i:Nat} (hi:i<m):ps.length=m/\ps.getD i 0=(prt ps i:Int)/\prt ps i<pkN ps m:=by
 unfold pkN at h ⊢;split at h
 ·rename_i c;obtain⟨c1,c2,c3⟩:=c;have hl:i<ps.length:=by omega
  have hm:ps.getD i 0∈ps:=by
   rw[List.getD_eq_getElem?_getD,List.getElem?_eq_getElem hl];exact List.getElem_mem hl
  have hin:=of_decide_eq_true (List.all_eq_true.1 c2 _ hm);have hmx:=mxI_mem (m:=0) hm;have hb:=mxI_bnd (m:=0) c2 (by decide);rw[if_pos ⟨c1,c2,c3⟩];unfold prt;exact⟨c1,by omega,by omega⟩
 ·exact absurd rfl h
def lmB (u:List (List ByteArray)) (ps:List Int):Bool:=(chQ u).2&&(decide (pkN ps (chQ u).1.length≠0)&&(List.range (chQ u).1.length).all fun i=>stp (chQ u).1 ps (pkN ps (chQ u).1.length) i)
def lmT (u:List (List ByteArray)) (ps:List Int):List (List ByteArray)×Bool:=if lmB u ps=true then giveM (lmM (chQ u).1 ps (pkN ps (chQ u).1.length))else([],false)
theorem lmS_upd (M:List (List Q3)) (ps:List Int) (i j p:Nat):(tab p fun k=>if k=prt ps j then addQ (lmS M ps i (prt ps j) j) (mq M i j)else lmS M ps i k j)=tab p fun k=>lmS M ps i k (j+1):=by
 apply tab_congr;intro k _
 conv=>rhs;unfold lmS
 by_cases h:k=prt ps j
 ·rw[if_pos h,if_pos h.symm,h]
 ·rw[if_neg h,if_neg fun e=>h e.symm]
def lmV (B:Nat) (M:List (List Q3)) (ps:List Int) (p i:Nat):List (List (Bool×(List Int×List Int))):=tab p fun k=>(lmF M ps p i k).map (rp B)
theorem lmV_len (B:Nat) (M:List (List Q3)) (ps:List Int) (p i:Nat):(lmV B M ps p i).length=p:=tab_len _ _
theorem lmV_zero (B:Nat) (M:List (List Q3)) (ps:List Int) (p:Nat):lmV B M ps p 0=List.replicate p []:=by
 rw[tab_rep];rfl
theorem lmF_succ (M:List (List Q3)) (ps:List Int) (p i k:Nat):lmF M ps p (i+1) k=if k=prt ps i then lmR M ps p i else lmF M ps p i k:=by
 have e:lst ps k (i+1)=if prt ps i=k then some i else lst ps k i:=rfl
 by_cases h:k=prt ps i
 ·rw[if_pos h];unfold lmF;rw[e,if_pos h.symm]
 ·rw[if_neg h];unfold lmF;rw[e,if_neg fun e=>h e.symm]
theorem lmV_set {B:Nat} {M:List (List Q3)} {ps:List Int} {p i:Nat} :(lmV B M ps p i).set (prt ps i) ((lmR M ps p i).map (rp B))=lmV B M ps p (i+1):=by
 unfold lmV;rw[tab_set];apply tab_congr;intro k _;rw[lmF_succ];split
 ·rfl
 ·rfl
theorem lmV_at {B:Nat} {M:List (List Q3)} {ps:List Int} {p i k:Nat} (h:k<p):(lmV B M ps p i).getD k []=(lmF M ps p i k).map (rp B):=tab_getD _ _ h
theorem lmV_all {B:Nat} {M:List (List Q3)} {ps:List Int} {p:Nat} :lmV B M ps p M.length=mp B (lmM M ps p):=by
 unfold lmV mp lmM;rw[tab_map]
theorem stp_iff (M:List (List Q3)) (ps:List Int) (p i:Nat) (hp:0<p):stp M ps p i=true↔(lmF M ps p i (prt ps i)=[]\/lmF M ps p i (prt ps i)=lmR M ps p i):=by
 unfold stp lmF;cases h:lst ps (prt ps i) i with
 |none=>simp
 |some j=>
  dsimp only;have:lmR M ps p j≠ []:=fun e=>by
   have:=congrArg List.length e;rw[lmR_len]at this;exact absurd this (by simp;omega)
  rw[decide_eq_true_iff];exact⟨Or.inr,fun c=>c.resolve_left this⟩
end Go.Cm
end
