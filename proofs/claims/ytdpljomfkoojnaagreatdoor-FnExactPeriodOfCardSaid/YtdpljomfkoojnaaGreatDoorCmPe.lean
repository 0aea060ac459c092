import Derived.Test.YtdpljomfkoojnaaGreatDoorCmQz
set_option linter.all false
namespace Go.Cm
open Go
def stepL (a:Nat→Bool) (l:Int) (s:List Int×List Nat×Int) (j:Nat):List Int×List Nat×Int:=
 if a j=true then
  (if s.1.getD j (-1)<0 then(s.1.set j (l+1),s.2.1++[j],s.2.2)
   else(s.1,s.2.1,(Int.gcd s.2.2 (l+1 - s.1.getD j (-1)):Int)))
 else s
theorem stepL_no {a:Nat→Bool} {l:Int} {s:List Int×List Nat×Int} {j:Nat} (h:a j=false):stepL a l s j=s:=by
 unfold stepL
 rw[h]
 rfl
theorem stepL_new {a:Nat→Bool} {l:Int} {s:List Int×List Nat×Int} {j:Nat} (h:a j=true) (h0:s.1.getD j (-1)<0):stepL a l s j=(s.1.set j (l+1),s.2.1++[j],s.2.2):=by
 unfold stepL
 rw[if_pos h,if_pos h0]
theorem stepL_old {a:Nat→Bool} {l:Int} {s:List Int×List Nat×Int} {j:Nat} (h:a j=true) (h0:¬s.1.getD j (-1)<0):stepL a l s j=(s.1,s.2.1,(Int.gcd s.2.2 (l+1 - s.1.getD j (-1)):Int)):=by
 unfold stepL
 rw[if_pos h,if_neg h0]
def perL (A:Nat→Nat→Bool) (n:Nat):Nat→List Int→List Nat→Int→Int
 |0,_,_,g=>g
 |_+1,_,[],g=>g
 |f+1,lv,i::r,g=>
  perL A n f ((List.range n).foldl (stepL (A i) (lv.getD i (-1))) (lv,r,g)).1 ((List.range n).foldl (stepL (A i) (lv.getD i (-1))) (lv,r,g)).2.1 ((List.range n).foldl (stepL (A i) (lv.getD i (-1))) (lv,r,g)).2.2
def adjC (M:List (List Q3)) (s i j:Nat):Bool:=adj M i j&&decide ((clsM M).1.getD j 0=(clsM M).1.getD s 0)
def perM (M:List (List Q3)) (s:Nat):Int:=perL (adjC M s) M.length M.length ((List.replicate M.length (-1)).set s 0) [s] 0
structure Lok (n:Nat) (s:List Int×List Nat×Int):Prop where
 len:s.1.length=n
 lo:∀x∈s.1, -1≤x∧x+(s.1.count (-1):Int)<n
 td:∀t∈s.2.1,t<n∧0≤s.1.getD t (-1)
 g0:0≤s.2.2
 g1:s.2.2≤1000000
theorem count_setL:∀(lv:List Int) (j:Nat) (v:Int),j<lv.length→lv.getD j (-1)= -1→v≠ -1→(lv.set j v).count (-1)+1=lv.count (-1)
 | [],_,_,h,_,_=>by simp at h
 |b::r,0,v,_,h,hv=>by
  simp at h
  subst h
  rw[List.set_cons_zero,List.count_cons,List.count_cons]
  simp [hv]
 |b::r,j+1,v,h,h2,hv=>by
  have:=count_setL r j v (by simpa using h) (by simpa using h2) hv
  rw[List.set_cons_succ,List.count_cons,List.count_cons]
  omega
theorem getD_memL {lv:List Int} {j:Nat} (h:j<lv.length):lv.getD j (-1)∈lv:=by
 rw[List.getD_eq_getElem?_getD,List.getElem?_eq_getElem h]
 exact List.getElem_mem h
theorem getD_setL {lv:List Int} {i j:Nat} {v:Int} :(lv.set j v).getD i (-1)=if i=j∧j<lv.length then v else lv.getD i (-1):=by
 rw[List.getD_eq_getElem?_getD,List.getD_eq_getElem?_getD,List.getElem?_set]
 by_cases h:i=j
 ·subst h
  by_cases h2:i<lv.length
  ·simp [h2]
  ·simp [h2]
 ·rw[if_neg (fun e=>h e.symm),if_neg (fun e=>h e.1)]
theorem gcd_bound {g d m:Int} (h0:0≤g) (h1:g≤m) (h2: -m≤d) (h3:d≤m):0≤(Int.gcd g d:Int)∧(Int.gcd g d:Int)≤m:=by
 refine⟨by omega,?_⟩
 by_cases hg:g=0
 ·subst hg
  rw[Int.gcd_zero_left]
  omega
 ·have:Int.gcd g d≤g.natAbs:=Nat.le_of_dvd (by omega) (Int.gcd_dvd_natAbs_left g d)
  omega
theorem stepL_ok {n:Nat} (hn:n≤12) {a:Nat→Bool} {s:List Int×List Nat×Int} {i j:Nat} (hj:j<n) (hi:i<n) (hl:0≤s.1.getD i (-1)) (h:Lok n s):
  Lok n (stepL a (s.1.getD i (-1)) s j)∧(stepL a (s.1.getD i (-1)) s j).1.getD i (-1)=s.1.getD i (-1)∧(stepL a (s.1.getD i (-1)) s j).2.1.length+(stepL a (s.1.getD i (-1)) s j).1.count (-1)=s.2.1.length+s.1.count (-1):=by
 have hmi:=h.lo _ (getD_memL (by rw[h.len];exact hi))
 have hmj:=h.lo _ (getD_memL (lv:=s.1) (j:=j) (by rw[h.len];exact hj))
 unfold stepL
 split
 ·split
  ·rename_i hc
   have hj1:s.1.getD j (-1)= -1:=by omega
   have hne:i≠j:=fun e=>by
    subst e
    omega
   have hcnt:=count_setL s.1 j (s.1.getD i (-1)+1) (by rw[h.len];exact hj) hj1 (by omega)
   refine⟨⟨by simp [h.len],fun x hx=> ?_,fun t ht=> ?_,h.g0,h.g1⟩,?_,?_⟩
   ·dsimp only at hx ⊢
    rcases List.mem_or_eq_of_mem_set hx with hx|hx
    ·have:=h.lo x hx
     omega
    ·subst hx
     omega
   ·dsimp only at ht ⊢
    rw[getD_setL]
    rcases List.mem_append.1 ht with ht|ht
    ·refine⟨(h.td t ht).1,?_⟩
     split
     ·omega
     ·exact(h.td t ht).2
    ·simp at ht
     subst ht
     refine⟨hj,?_⟩
     rw[if_pos ⟨rfl,by rw[h.len];exact hj⟩]
     omega
   ·dsimp only
    rw[getD_setL,if_neg (fun e=>hne e.1)]
   ·simp only[List.length_append,List.length_cons,List.length_nil]
    omega
  ·rename_i hc
   obtain⟨b1,b2⟩:=gcd_bound (d:=s.1.getD i (-1)+1 - s.1.getD j (-1)) h.g0 h.g1 (by omega) (by omega)
   exact⟨⟨h.len,h.lo,h.td,b1,b2⟩,rfl,rfl⟩
 ·exact⟨h,rfl,rfl⟩
theorem foldL_ok {n:Nat} (hn:n≤12) {a:Nat→Bool} {s:List Int×List Nat×Int} {i:Nat} (hi:i<n) (hl:0≤s.1.getD i (-1)) (h:Lok n s):∀k,k≤n→Lok n ((List.range k).foldl (stepL a (s.1.getD i (-1))) s)∧((List.range k).foldl (stepL a (s.1.getD i (-1))) s).1.getD i (-1)=s.1.getD i (-1)∧((List.range k).foldl (stepL a (s.1.getD i (-1))) s).2.1.length+((List.range k).foldl (stepL a (s.1.getD i (-1))) s).1.count (-1)=s.2.1.length+s.1.count (-1)
 |0,_=>⟨h,rfl,rfl⟩
 |k+1,hk=>by
  obtain⟨i1,i2,i3⟩:=foldL_ok hn (a:=a) hi hl h k (by omega)
  rw[fold_succ]
  obtain⟨j1,j2,j3⟩:=stepL_ok hn (a:=a) (j:=k) (by omega) hi (by rw[i2];exact hl) i1
  rw[i2]at j1 j2 j3
  exact⟨j1,j2,by omega⟩
theorem startL {n s:Nat} (hn:n≤12) (h:s<n):Lok n ((List.replicate n (-1)).set s 0,[s],0)∧([s]:List Nat).length+((List.replicate n (-1:Int)).set s 0).count (-1)=n:=by
 have hcnt:=count_setL (List.replicate n (-1)) s 0 (by simpa using h) (by simp [List.getD_eq_getElem?_getD,h]) (by decide)
 rw[List.count_replicate]at hcnt
 simp at hcnt
 refine⟨⟨by simp,fun x hx=> ?_,fun t ht=> ?_,Int.le_refl 0,show(0:Int)≤1000000 by decide⟩,?_⟩
 ·dsimp only at hx ⊢
  rcases List.mem_or_eq_of_mem_set hx with hx|hx
  ·have:=List.eq_of_mem_replicate hx
   omega
  ·omega
 ·simp at ht
  subst ht
  refine⟨h,?_⟩
  dsimp only
  rw[getD_setL,if_pos ⟨rfl,by simpa using h⟩]
  omega
 ·simp
  omega
def lv0 (lv:List Int):List Int:=lv.map fun x=>if x<0 then 0 else x
def lvS (lv:List Int):List Bool:=lv.map fun x=>decide (0≤x)
theorem lv0_len (lv:List Int):(lv0 lv).length=lv.length:=by simp [lv0]
theorem lvS_len (lv:List Int):(lvS lv).length=lv.length:=by simp [lvS]
theorem lv0_at (lv:List Int) (j:Nat):(lv0 lv).getD j 0=if lv.getD j (-1)<0 then 0 else lv.getD j (-1):=by
 unfold lv0
 rw[List.getD_eq_getElem?_getD,List.getD_eq_getElem?_getD,List.getElem?_map]
 cases lv[j]? <;>rfl
theorem lvS_at (lv:List Int) (j:Nat):(lvS lv).getD j false=decide (0≤lv.getD j (-1)):=by
 unfold lvS
 rw[List.getD_eq_getElem?_getD,List.getD_eq_getElem?_getD,List.getElem?_map]
 cases lv[j]? <;>rfl
theorem lv0_set (lv:List Int) (j:Nat) {v:Int} (h:0≤v):(lv0 lv).set j v=lv0 (lv.set j v):=by
 unfold lv0
 rw[List.map_set,if_neg (by omega)]
theorem lvS_set (lv:List Int) (j:Nat) {v:Int} (h:0≤v):(lvS lv).set j true=lvS (lv.set j v):=by
 unfold lvS
 rw[List.map_set,decide_eq_true h]
theorem lv0_start {n s:Nat} :lv0 ((List.replicate n (-1)).set s 0)=List.replicate n 0:=by
 unfold lv0
 rw[List.map_set,List.map_replicate,if_neg (show ¬(0:Int)<0 by decide),if_pos (show(-1:Int)<0 by decide)]
 apply List.ext_getElem (by simp)
 intro i h1 h2
 rw[List.getElem_set]
 simp
theorem lvS_start {n s:Nat} :lvS ((List.replicate n (-1)).set s 0)=(List.replicate n false).set s true:=by
 unfold lvS
 rw[List.map_set,List.map_replicate]
 rfl
theorem gcd_rem (a b:Int):Int.gcd b (Int.tmod a b)=Int.gcd a b:=by
 rw[Int.gcd_comm a b]
 unfold Int.gcd
 rw[Int.natAbs_tmod]
 rw[Nat.gcd_comm,←Nat.gcd_rec]
end Go.Cm
