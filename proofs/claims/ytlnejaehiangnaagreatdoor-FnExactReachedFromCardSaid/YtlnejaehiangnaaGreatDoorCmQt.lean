import Derived.Test.YtlnejaehiangnaaGreatDoorCmQs
set_option linter.unusedVariables false
namespace Go.Cm
theorem nodup_dup:∀ {xs:List Nat},xs.Nodup→dup xs=false
 | [],_=>rfl
 |x::xs,h=>by
  rw[List.nodup_cons]at h
  unfold dup
  rw[nodup_dup h.2,Bool.or_false,List.any_eq_false]
  intro y hy e
  exact h.1 (Nat.eq_of_beq_eq_true e▸hy)
theorem nodup_set:∀ {xs:List Nat} {v:Nat} (i:Nat),xs.Nodup→v∉xs→(xs.set i v).Nodup
 | [],_,_,_,_=>by simp
 |x::xs,v,0,h,hv=>by
  rw[List.nodup_cons]at h
  rw[List.set_cons_zero,List.nodup_cons]
  exact⟨fun e=>hv (List.mem_cons_of_mem _ e),h.2⟩
 |x::xs,v,i+1,h,hv=>by
  rw[List.nodup_cons]at h
  rw[List.set_cons_succ,List.nodup_cons]
  refine⟨fun e=> ?_,nodup_set i h.2 fun e=>hv (List.mem_cons_of_mem _ e)⟩
  rcases List.mem_or_eq_of_mem_set e with e|e
  ·exact h.1 e
  ·exact hv (by rw[←e];exact List.mem_cons_self ..)
theorem hd0_fst {α:Type} (m:List (List α×Nat)):(hd0 m).map (fun y=>y.1)=List.range m.length:=by
 apply List.ext_getElem
 ·simp [hd0]
 ·intro i h1 h2
  simp [hd0]
theorem hd0_dup {α:Type} (m:List (List α×Nat)):dup ((hd0 m).map fun y=>y.1)=false:=by
 rw[hd0_fst]
 exact nodup_dup List.nodup_range
theorem hd0_dup_set {α:Type} (m:List (List α×Nat)) (i c:Nat):dup (((hd0 m).set i ((in0 m).length,c)).map fun y=>y.1)=false:=by
 rw[List.map_set,hd0_fst]
 apply nodup_dup
 apply nodup_set i List.nodup_range
 rw[in0_length]
 simp
theorem hd0_take {α:Type} (m:List (List α×Nat)) (n:Nat):seen (hd0 m) 0 n=hd0 (m.take n):=by
 unfold seen hd0
 apply List.ext_getElem
 ·simp
 ·intro i h1 h2
  simp
theorem hd0_at {α:Type} (m:List (List α×Nat)) {i:Nat} (h:i<m.length):(hd0 m).getD i (0,0)=(i,m[i].2):=by
 simp [hd0,List.getD_eq_getElem?_getD,h]
theorem in0_at {α:Type} (m:List (List α×Nat)) {i:Nat} (h:i<m.length):(in0 m).getD i []=m[i].1:=by
 simp [in0,List.getD_eq_getElem?_getD,h]
theorem nrm_hd0 {α:Type} (m:List (List α×Nat)):nrm (hd0 m) (in0 m)=m:=by
 unfold nrm
 apply List.ext_getElem
 ·simp [hd0]
 ·intro i h1 h2
  rw[List.getElem_map]
  simp [hd0,in0,List.getD_eq_getElem?_getD,h2]
theorem nrm_take {α:Type} (m:List (List α×Nat)) (n:Nat):nrm (hd0 (m.take n)) (in0 m)=m.take n:=by
 unfold nrm
 apply List.ext_getElem
 ·simp [hd0]
 ·intro i h1 h2
  rw[List.getElem_map]
  have h3:i<m.length:=by rw[List.length_take]at h2;omega
  simp [hd0,in0,List.getD_eq_getElem?_getD,h3]
theorem nrm_store {α:Type} (m:List (List α×Nat)) {i:Nat} (v:List α) (c:Nat):nrm ((hd0 m).set i ((in0 m).length,c)) (in0 m++[v])=m.set i (v,c):=by
 unfold nrm
 apply List.ext_getElem
 ·simp [hd0]
 ·intro j h1 h2
  rw[List.getElem_map,List.getElem_set,List.getElem_set]
  rw[List.length_set]at h2
  split
  ·simp [List.getD_eq_getElem?_getD]
  ·simp [hd0,in0,List.getD_eq_getElem?_getD,List.getElem?_append,h2]
theorem nrm_write {α:Type} (m:List (List α×Nat)) {i:Nat} (h:i<m.length) (v:List α):nrm (hd0 m) ((in0 m).set i v)=m.set i (v,m[i].2):=by
 unfold nrm
 apply List.ext_getElem
 ·simp [hd0]
 ·intro j h1 h2
  rw[List.getElem_map,List.getElem_set]
  rw[List.length_set]at h2
  split
  ·rename_i e
   subst e
   simp [hd0,in0,List.getD_eq_getElem?_getD,h2]
  ·rename_i e
   simp [hd0,in0,List.getD_eq_getElem?_getD,h2,e]
def mp (B:Nat) (M:List (List Q3)):List (List (Bool×(List Int×List Int))):=M.map fun r=>r.map (rp B)
def mv (B:Nat) (m:List (List (Bool×(List Int×List Int)))):List (List Q3):=m.map fun r=>r.map (rv B)
theorem mv_mp {B:Nat} (hB:2≤B) (M:List (List Q3)):mv B (mp B M)=M:=by
 unfold mv mp
 rw[List.map_map]
 have:((fun r=>List.map (rv B) r) ∘ fun r=>List.map (rp B) r)=(id:List Q3→List Q3):=by
  funext r
  exact map_rv hB r
 rw[this,List.map_id]
def isM (M:List (List Q3)):Prop:=M.length≤12∧∀r∈M,r.length=M.length∧∀q∈r,q.1=false
def adj (M:List (List Q3)) (i j:Nat):Bool:=decide (((M.getD i []).getD j zeroQ).2.1≠0)
def stepB (a:Nat→Bool) (s:List Bool×List Nat) (j:Nat):List Bool×List Nat:=if a j=true∧s.1.getD j false=false then(s.1.set j true,s.2++[j])else s
def scanB (a:Nat→Bool) (n:Nat) (s:List Bool×List Nat):List Bool×List Nat:=(List.range n).foldl (stepB a) s
def bfs (A:Nat→Nat→Bool) (n:Nat):Nat→List Bool→List Nat→List Bool
 |0,sn,_=>sn
 |_+1,sn,[]=>sn
 |f+1,sn,i::r=>bfs A n f (scanB (A i) n (sn,r)).1 (scanB (A i) n (sn,r)).2
def reachB (A:Nat→Nat→Bool) (n s:Nat):List Bool:=bfs A n n ((List.replicate n false).set s true) [s]
def posF (o:Int):List Bool→List Int
 | []=>[]
 |b::r=>if b=true then o::posF (o+1) r else posF (o+1) r
def putL:List Int→Int→List Int
 | [],n=>[n]
 |x::xs,n=>if n≤x then(if n<x then n::x::xs else x::xs)else x::putL xs n
theorem count_set:∀(sn:List Bool) (j:Nat),j<sn.length→sn.getD j false=false→(sn.set j true).count false+1=sn.count false
 | [],_,h,_=>by simp at h
 |b::r,0,_,h=>by
  simp at h
  subst h
  simp
 |b::r,j+1,h,h2=>by
  have:=count_set r j (by simpa using h) (by simpa using h2)
  rw[List.set_cons_succ,List.count_cons,List.count_cons]
  omega
structure Bok (n:Nat) (s:List Bool×List Nat):Prop where
 len:s.1.length=n
 lt:∀t∈s.2,t<n
theorem stepB_ok {n:Nat} {a:Nat→Bool} {s:List Bool×List Nat} {j:Nat} (hj:j<n) (h:Bok n s):Bok n (stepB a s j)∧(stepB a s j).2.length+(stepB a s j).1.count false=s.2.length+s.1.count false:=by
 unfold stepB
 split
 ·rename_i hc
  refine⟨⟨by simp [h.len],fun t ht=> ?_⟩,?_⟩
  ·rcases List.mem_append.1 ht with ht|ht
   ·exact h.lt t ht
   ·simp at ht;omega
  ·have:=count_set s.1 j (by rw[h.len];exact hj) hc.2
   simp only[List.length_append,List.length_cons,List.length_nil]
   omega
 ·exact⟨h,rfl⟩
theorem foldB_ok {n:Nat} {a:Nat→Bool} {s:List Bool×List Nat} (h:Bok n s):∀k,k≤n→Bok n ((List.range k).foldl (stepB a) s)∧((List.range k).foldl (stepB a) s).2.length+((List.range k).foldl (stepB a) s).1.count false=s.2.length+s.1.count false
 |0,_=>⟨h,rfl⟩
 |k+1,hk=>by
  obtain⟨i1,i2⟩:=foldB_ok (a:=a) h k (by omega)
  rw[List.range_succ,List.foldl_append]
  obtain⟨j1,j2⟩:=stepB_ok (a:=a) (j:=k) (by omega) i1
  exact⟨j1,by simp only[List.foldl_cons,List.foldl_nil];omega⟩
theorem fold_succ {α:Type} (f:α→Nat→α) (s:α) (k:Nat):(List.range (k+1)).foldl f s=f ((List.range k).foldl f s) k:=by rw[List.range_succ,List.foldl_append];rfl
theorem bfs_len {A:Nat→Nat→Bool} {n:Nat} :∀(f:Nat) {sn:List Bool} {td:List Nat},Bok n (sn,td)→(bfs A n f sn td).length=n
 |0,_,_,h=>h.len
 |_+1,_,[],h=>h.len
 |f+1,sn,i::r,h=>by
  have h':Bok n (sn,r):=⟨h.len,fun t ht=>h.lt t (List.mem_cons_of_mem _ ht)⟩
  exact bfs_len f (foldB_ok (a:=A i) h' n (Nat.le_refl _)).1
theorem start_ok {n s:Nat} (h:s<n):Bok n ((List.replicate n false).set s true,[s])∧([s]:List Nat).length+((List.replicate n false).set s true).count false=n:=by
 refine⟨⟨by simp,fun t ht=>by simp at ht;omega⟩,?_⟩
 have:=count_set (List.replicate n false) s (by simpa using h) (by simp [List.getD_eq_getElem?_getD,h])
 rw[List.count_replicate]at this
 simp at this ⊢
 omega
theorem reachB_len {A:Nat→Nat→Bool} {n s:Nat} (h:s<n):(reachB A n s).length=n:=bfs_len n (start_ok h).1
theorem posF_len (o:Int):∀sn:List Bool,(posF o sn).length≤sn.length
 | []=>Nat.le_refl _
 |b::r=>by
  unfold posF
  have:=posF_len (o+1) r
  split<;>simp<;>omega
theorem posF_ge {o x:Int} :∀ {sn:List Bool},x∈posF o sn→o≤x
 | [],h=>by simp [posF]at h
 |b::r,h=>by
  unfold posF at h
  split at h
  ·rcases List.mem_cons.1 h with h|h
   ·omega
   ·have:=posF_ge h
    omega
  ·have:=posF_ge h
   omega
theorem posF_put (o:Int):∀(sn:List Bool) (j:Nat),j<sn.length→putL (posF o sn) (o+(j:Int))=posF o (sn.set j true)
 | [],_,h=>by simp at h
 |b::r,0,_=>by
  rw[List.set_cons_zero,posF,posF,if_pos rfl,show o+((0:Nat):Int)=o by omega]
  split
  ·rw[putL,if_pos (Int.le_refl _),if_neg (Int.lt_irrefl _)]
  ·cases hr:posF (o+1) r with
   |nil=>rfl
   |cons x xs=>
    have:=posF_ge (o:=o+1) (x:=x) (sn:=r) (by rw[hr];exact List.mem_cons_self ..)
    rw[putL,if_pos (by omega),if_pos (by omega)]
 |b::r,j+1,h=>by
  have ih:=posF_put (o+1) r j (by simpa using h)
  rw[show o+1+(j:Int)=o+((j+1:Nat):Int) by omega]at ih
  rw[List.set_cons_succ,posF,posF]
  split
  ·rw[putL,if_neg (by omega),ih]
  ·exact ih
theorem posF_mem (o:Int):∀(sn:List Bool) (j:Nat),decide (o+(j:Int)∈posF o sn)=sn.getD j false
 | [],j=>by simp [posF]
 |b::r,0=>by
  rw[show o+((0:Nat):Int)=o by omega,posF]
  cases b with
  |true=>simp
  |false=>
   simp only[Bool.false_eq_true,if_false]
   exact decide_eq_false fun h=>by
    have:=posF_ge h
    omega
 |b::r,j+1=>by
  have ih:=posF_mem (o+1) r j
  rw[show o+1+(j:Int)=o+((j+1:Nat):Int) by omega]at ih
  have e:(b::r).getD (j+1) false=r.getD j false:=by simp [List.getD_eq_getElem?_getD]
  rw[e,←ih,posF]
  cases b with
  |true=>
   simp only[if_true]
   rw[decide_eq_decide,List.mem_cons]
   exact⟨fun h=>h.resolve_left (by omega),Or.inr⟩
  |false=>rfl
theorem posF_snoc (o:Int):∀(sn:List Bool) (b:Bool),posF o (sn++[b])=posF o sn++(if b=true then [o+(sn.length:Int)]else [])
 | [],b=>by simp [posF]
 |c::r,b=>by
  have ih:=posF_snoc (o+1) r b
  rw[show o+1+(r.length:Int)=o+((c::r).length:Int) by simp;omega]at ih
  rw[List.cons_append,posF,posF,ih]
  split<;>rfl
theorem posF_start {n s:Nat} (h:s<n):posF 0 ((List.replicate n false).set s true)=[(s:Int)]:=by
 have e:posF 0 (List.replicate n false)=[]:=by
  have:∀(o:Int) (n:Nat),posF o (List.replicate n false)=[]:=by
   intro o n
   induction n generalizing o with
   |zero=>rfl
   |succ n ih=>rw[List.replicate_succ,posF,if_neg (by decide),ih]
  exact this 0 n
 have:=posF_put 0 (List.replicate n false) s (by simpa using h)
 rw[e]at this
 rw[←this]
 simp [putL]
def zs (l:List Nat):List Int:=l.map fun t:Nat=>(t:Int)
theorem mp_at {B:Nat} {M:List (List Q3)} {i:Nat} (h:i<M.length):(mp B M).getD i []=(M.getD i []).map (rp B):=by
 simp [mp,List.getD_eq_getElem?_getD,h]
theorem mp_len {B:Nat} {M:List (List Q3)} :(mp B M).length=M.length:=by simp [mp]
theorem isM_row {M:List (List Q3)} (h:isM M) {i:Nat} (hi:i<M.length):(M.getD i []).length=M.length∧∀q∈M.getD i [],q.1=false:=by
 have e:M.getD i []=M[i]:=by simp [List.getD_eq_getElem?_getD,hi]
 rw[e]
 exact h.2 _ (List.getElem_mem hi)
theorem isM_at {M:List (List Q3)} (h:isM M) {i j:Nat} (hi:i<M.length) (hj:j<M.length):((M.getD i []).getD j zeroQ).1=false:=by
 obtain⟨h1,h2⟩:=isM_row h hi
 generalize M.getD i []=r at*
 apply h2
 rw[List.getD_eq_getElem?_getD,List.getElem?_eq_getElem (by omega)]
 exact List.getElem_mem _
theorem posQ_adj {M:List (List Q3)} (h:isM M) {i j:Nat} (hi:i<M.length) (hj:j<M.length):posQ ((M.getD i []).getD j zeroQ)=adj M i j:=by
 have:=isM_at h hi hj
 unfold posQ adj
 rw[this]
 simp
theorem getD_zs (l:List Nat) (i:Nat):(zs l).getD i 0=((l.getD i 0:Nat):Int):=by
 unfold zs
 rw[List.getD_eq_getElem?_getD,List.getD_eq_getElem?_getD,List.getElem?_map]
 cases l[i]? <;>rfl
theorem zs_len (l:List Nat):(zs l).length=l.length:=by simp [zs]
theorem zs_append (a b:List Nat):zs (a++b)=zs a++zs b:=by simp [zs]
def spare:ByteArray:=bs [126,115,112,97,114,101,126]
def S.l_toStringS (x:((List ByteArray)×(Bool×Unit))):(Option (((List ByteArray)×Nat)×Unit)):=if x.1.length≤1000000 then some (tos spare x.2.1 x.1,())else none
def okRS (xs:List (List ByteArray)):Prop:=xs.length≤1000000∧∀x∈xs,x.length≤1000000
def spareR:List ByteArray×Nat:=([spare],1)
def tos2 (bare:Bool) (xs:List (List ByteArray)):List (List ByteArray×Nat)×Nat:=if bare=true∧xs=[]then([],0)else(xs.map (tos spare bare)++List.replicate (rb xs.length).toNat spareR,xs.length)
theorem tos2_take (bare:Bool) (xs:List (List ByteArray)):((tos2 bare xs).1.take (tos2 bare xs).2).map (fun y=>(y.1.take y.2).map (fun z=>z))=xs:=by
 unfold tos2
 split
 ·rename_i h;rw[h.2];rfl
 ·simp only
  rw[List.take_append_of_le_length (by simp),List.take_of_length_le (by simp),List.map_map]
  have:((fun y:List ByteArray×Nat=>(y.1.take y.2).map (fun z=>z)) ∘ tos spare bare)=id:=by
   funext y
   simp [tos_take]
  rw[this,List.map_id]
open Classical in
noncomputable def S.l_toStringSS (x:((List (List ByteArray))×(Bool×Unit))):(Option (((List ((List ByteArray)×Nat))×Nat)×Unit)):=if okRS x.1 then some (tos2 x.2.1 x.1,())else none
def isCh (M:List (List Q3)):Prop:=1≤M.length∧isM M∧∀r∈M,(∀q∈r,low q∧below 200 q)∧isW r=true
theorem chQ_ok {u:List (List ByteArray)} (h:(chQ u).2=true):isCh (chQ u).1∧(chQ u).1.length=u.length:=by
 unfold chQ at*
 split at h
 case isFalse=>cases h
 rename_i hc
 rw[if_pos hc]
 simp only[Bool.and_eq_true,decide_eq_true_iff,List.all_eq_true]at hc
 obtain⟨h1,h2,h3⟩:=hc
 have hr:∀r∈u,(rdAll r).2=true∧isW (rdAll r).1=true∧r.length=u.length:=fun r hr=>by
  obtain⟨a,b⟩:=h3 r hr
  obtain⟨w1,w2,_⟩:=wtAll_ok b
  exact⟨w1,w2,a⟩
 refine⟨⟨by simpa using h1,⟨by simpa using h2,fun r hm=> ?_⟩,fun r hm=> ?_⟩,by simp⟩
 ·obtain⟨s,hs,rfl⟩:=List.mem_map.1 hm
  obtain⟨a,b,c⟩:=hr s hs
  refine⟨by rw[(rdAll_ok a).1,List.length_map,c],fun q hq=> ?_⟩
  have:(!((rdAll s).1.any fun r=>r.1))=true:=by
   unfold isW at b
   rw[Bool.and_eq_true]at b
   exact b.1
  rw[Bool.not_eq_true',List.any_eq_false]at this
  simpa using this q hq
 ·obtain⟨s,hs,rfl⟩:=List.mem_map.1 hm
  obtain⟨a,b,c⟩:=hr s hs
  exact⟨(rdAll_ok a).2.2,b⟩
end Go.Cm
