import Derived.Test.YtlnejaehiangnaaGreatDoorCmQz
set_option linter.unusedVariables false
namespace Go.Cm
theorem below_rok9 {B N n:Nat} (hB:10^9≤B) {r:Q3} (h:below n r) (hn:n/9+1≤N):rok B N (rp B r)=true:=by
 have h0:(10:Nat)^9=1000000000:=by decide
 have h1:10^n≤B^N:=by
  have h2:10^n≤10^(9*(n/9+1)):=Nat.pow_le_pow_right (by decide) (by omega)
  have h3:10^(9*(n/9+1))=(10^9)^(n/9+1):=Nat.pow_mul 10 9 _
  have h4:(10^9)^(n/9+1)≤B^(n/9+1):=Nat.pow_le_pow_left hB _
  have h5:B^(n/9+1)≤B^N:=Nat.pow_le_pow_right (by omega) hn
  rw[h3]at h2
  exact Nat.le_trans h2 (Nat.le_trans h4 h5)
 exact rok_rp (by omega) r (Nat.lt_of_lt_of_le h.1 h1) (Nat.lt_of_lt_of_le h.2 h1)
theorem lowb_rp9 {B N n:Nat} (hB:10^9≤B) {r:Q3} (h:low r) (hb:below n r) (hn:n/9+1≤N):lowb B N (rp B r)=true:=by
 have h0:(10:Nat)^9=1000000000:=by decide
 rw[lowb_iff,rv_rp (by omega)]
 exact⟨below_rok9 hB hb hn,h⟩
def goodQ (n:Nat) (qs:List Q3):Prop:=(∀r∈qs,low r∧below n r)∧(n+1)*qs.length+1≤80000000
def goodL (B:Nat) (xs:List (Bool×(List Int×List Int))):Prop:=∃(qs:List Q3) (n:Nat),xs=qs.map (rp B)∧goodQ n qs
theorem map_rv {B:Nat} (hB:2≤B) (qs:List Q3):(qs.map (rp B)).map (rv B)=qs:=by
 rw[List.map_map]
 have:(rv B ∘ rp B)=id:=by
  funext r
  exact rv_rp hB r
 rw[this,List.map_id]
theorem good_len {n:Nat} {qs:List Q3} (h:goodQ n qs):qs.length≤80000000:=by
 have h1:=h.2
 have h2:1*qs.length≤(n+1)*qs.length:=Nat.mul_le_mul_right _ (by omega)
 omega
theorem good_n {n:Nat} {qs:List Q3} (h:goodQ n qs) (hl:0<qs.length):n≤80000000:=by
 have h1:=h.2
 have h2:(n+1)*1≤(n+1)*qs.length:=Nat.mul_le_mul_left _ hl
 omega
theorem good_get {B n:Nat} (hB:10^9≤B) {qs:List Q3} (h:goodQ n qs) {i:Nat} (hi:i<qs.length):lowb B 10000000 (rp B qs[i])=true:=by
 have hm:=h.1 _ (List.getElem_mem hi)
 have:=good_n h (by omega)
 exact lowb_rp9 hB hm.1 hm.2 (by omega)
theorem good_take {n:Nat} {qs:List Q3} (h:goodQ n qs) (i:Nat):low (sumQ (qs.take i))∧below 80000000 (sumQ (qs.take i)):=by
 have hs:∀r∈qs.take i,low r∧below n r:=fun r hr=>h.1 r (List.mem_of_mem_take hr)
 refine⟨sumQ_low _ _ rfl (fun r hr=>(hs r hr).1),?_⟩
 have h1:=sumQ_below n _ (qs.take i) rfl (fun r hr=>(hs r hr).2)
 refine below_mono ?_ h1
 have h2:=h.2
 have h3:(n+1)*(qs.take i).length≤(n+1)*qs.length:=Nat.mul_le_mul_left _ (by rw[List.length_take];omega)
 omega
theorem good_step {B n:Nat} (hB:10^9≤B) {qs:List Q3} (h:goodQ n qs) (i:Nat):lowb B 10000000 (rp B (sumQ (qs.take i)))=true:=lowb_rp9 hB (good_take h i).1 (good_take h i).2 (by decide)
theorem sumQ_take {qs:List Q3} {i:Nat} (hi:i<qs.length):addQ (sumQ (qs.take i)) qs[i]=sumQ (qs.take (i+1)):=by
 rw[List.take_add_one,List.getElem?_eq_getElem hi,Option.toList_some,sumQ_snoc]
theorem good_sum {n:Nat} {qs:List Q3} (h:goodQ n qs):low (sumQ qs)∧below 80000000 (sumQ qs):=by
 have:=good_take h qs.length
 rw[List.take_length]at this
 exact this
theorem good_rok {B n:Nat} (hB:10^9≤B) {qs:List Q3} (h:goodQ n qs):rok B 10000000 (rp B (sumQ qs))=true:=below_rok9 hB (good_sum h).2 (by decide)
theorem rdAll_good {ls:List ByteArray} (h:(rdAll ls).2=true):goodQ 200 (rdAll ls).1:=by
 obtain⟨h1,h2,h3⟩:=rdAll_ok h
 refine⟨h3,?_⟩
 rw[h1]
 omega
theorem rdAll_goodL {B:Nat} {ls:List ByteArray} (h:(rdAll ls).2=true):goodL B ((rdAll ls).1.map (rp B)):=⟨_,200,rfl,rdAll_good h⟩
def okT (ls:List ByteArray):Bool:=ls.all fun s=>decide (s.size≤1000000)
theorem okT_get {ls:List ByteArray} (h:okT ls=true) {i:Nat} (hi:i<ls.length):ls[i].size≤1000000:=of_decide_eq_true (List.all_eq_true.1 h _ (List.getElem_mem hi))
def isOneQ (x:Q3):Bool:=decide (x.1=false∧x.2.1=x.2.2)
def ixM:List (Bool×(List Int×List Int))→Int
 | []=> -1
 |x::r=>if x.1=true then 0 else if ixM r<0 then -1 else ixM r+1
theorem ixM_cons (x:Bool×(List Int×List Int)) (r:List (Bool×(List Int×List Int))):ixM (x::r)=if x.1=true then 0 else if ixM r<0 then -1 else ixM r+1:=rfl
theorem ixM_any (xs:List (Bool×(List Int×List Int))):decide (0≤ixM xs)=xs.any fun x=>x.1:=by
 induction xs with
 |nil=>rfl
 |cons x r ih=>
  rw[List.any_cons,←ih,ixM_cons]
  cases hx:x.1
  ·rw[if_neg (by decide),Bool.false_or,decide_eq_decide]
   split<;>omega
  ·rw[if_pos rfl]
   rfl
def isW (qs:List Q3):Bool:= !(qs.any fun r=>r.1)&&isOneQ (sumQ qs)
theorem any_rp (B:Nat) (qs:List Q3):((qs.map (rp B)).any fun x=>x.1)=qs.any fun r=>r.1:=by
 rw[List.any_map]
 rfl
def wtAll (ls:List ByteArray):List Q3×Bool:=if((rdAll ls).2&&isW (rdAll ls).1)=true then rdAll ls else([],false)
theorem wtAll_ok {ls:List ByteArray} (h:(wtAll ls).2=true):(rdAll ls).2=true∧isW (rdAll ls).1=true∧wtAll ls=rdAll ls:=by
 unfold wtAll at*
 by_cases hc:((rdAll ls).2&&isW (rdAll ls).1)=true
 ·rw[if_pos hc]
  simp only[Bool.and_eq_true]at hc
  exact⟨hc.1,hc.2,rfl⟩
 ·rw[if_neg hc]at h
  cases h
theorem wtAll_snd (ls:List ByteArray):(wtAll ls).2=((rdAll ls).2&&isW (rdAll ls).1):=by
 unfold wtAll
 by_cases hc:((rdAll ls).2&&isW (rdAll ls).1)=true
 ·rw[if_pos hc,hc]
  simp only[Bool.and_eq_true]at hc
  exact hc.1
 ·rw[if_neg hc]
  cases h:((rdAll ls).2&&isW (rdAll ls).1)
  ·rfl
  ·exact absurd h hc
def absQ (r:Q3):Q3:=(false,r.2)
theorem absQ_low {r:Q3} (h:low r):low (absQ r):=⟨h.1,(fun z=>by cases z),h.2.2⟩
def dfs (xs ys:List Q3):List Q3:=List.zipWith (fun x y=>absQ (addQ x (oppQ y))) xs ys
def distQ (xs ys:List Q3):Q3:=overQ (sumQ (dfs xs ys)) (wholeQ 2)
theorem dfs_len {xs ys:List Q3} (h:xs.length=ys.length):(dfs xs ys).length=xs.length:=by
 unfold dfs
 rw[List.length_zipWith]
 omega
theorem dfs_get {xs ys:List Q3} (h:xs.length=ys.length) {i:Nat} (hi:i<xs.length):(dfs xs ys)[i]'(by rw[dfs_len h];exact hi)=absQ (addQ xs[i] (oppQ (ys[i]'(by omega)))):=by
 unfold dfs
 rw[List.getElem_zipWith]
theorem dfs_good {xs ys:List Q3} (hx:∀r∈xs,low r∧below 200 r) (hy:∀r∈ys,low r∧below 200 r) (h:xs.length=ys.length) (hl:xs.length≤300):goodQ 401 (dfs xs ys):=by
 refine⟨fun r hr=> ?_,?_⟩
 ·obtain⟨i,hi,rfl⟩:=List.getElem_of_mem hr
  have hi':i<xs.length:=by rw[dfs_len h]at hi;exact hi
  rw[dfs_get h hi']
  have h1:=hx _ (List.getElem_mem hi')
  have h2:=hy _ (List.getElem_mem (show i<ys.length by omega))
  exact⟨absQ_low (addQ_low _ _ h1.1 (oppQ_low _ h2.1)),below_mono (m:=200+200+1) (n:=401) (by omega) (addQ_below h1.2 (oppQ_below h2.2))⟩
 ·rw[dfs_len h]
  omega
theorem wholeQ_below {n:Nat} {k:Int} (h:k.natAbs<10^n) (h0:0<n):below n (wholeQ k):=⟨h,Nat.one_lt_pow (by omega) (by decide)⟩
theorem distQ_rok {B:Nat} (hB:10^9≤B) {n:Nat} {xs ys:List Q3} (h:goodQ n (dfs xs ys)):rok B 10000000 (rp B (distQ xs ys))=true:=
 below_rok9 hB (overQ_below (good_sum h).2 (wholeQ_below (n:=1) (by decide) (by decide))) (by decide)
def goodP (B:Nat) (xs ys:List (Bool×(List Int×List Int))):Prop:=∃as bs:List Q3,xs=as.map (rp B)∧ys=bs.map (rp B)∧as.length=bs.length∧as.length≤300∧(∀r∈as,low r∧below 200 r)∧(∀r∈bs,low r∧below 200 r)
def padT (n:Nat) (D:List UInt8):List UInt8:=List.replicate (n+1 - D.length) 48++D
theorem padT_len (n:Nat) (D:List UInt8):n<(padT n D).length∧(padT n D).length≤n+1+D.length:=by
 unfold padT
 rw[List.length_append,List.length_replicate]
 omega
def plcT (n:Nat) (neg:Bool) (N:Nat):List UInt8:=
 (if neg=true∧N≠0 then [45]else [])++(if 0<n then(padT n (Go.Lib.decDigits N)).take ((padT n (Go.Lib.decDigits N)).length - n)++46::(padT n (Go.Lib.decDigits N)).drop ((padT n (Go.Lib.decDigits N)).length - n)else padT n (Go.Lib.decDigits N))
def sizeQ (x:Q3) (n:Nat):Q3:=floorQ (addQ (mulQ (absQ x) (powQ (wholeQ 10) n)) (lowN false 1 2))
theorem nd_two {B:Nat} (hB:3≤B):nd B 2=[2]:=by
 rw[nd_pos (by omega) (by omega),Nat.mod_eq_of_lt (by omega),Nat.div_eq_of_lt (by omega),nd_zero (by omega)]
 rfl
def jtl (r:List ByteArray):List UInt8:=(r.map fun y=>44::y.data.toList).flatten
def jT:List ByteArray→List UInt8
 | []=>[110,111,110,101]
 |x::r=>x.data.toList++jtl r
theorem jtl_len {r:List ByteArray} (h:okT r=true):(jtl r).length≤r.length*1000001:=by
 induction r with
 |nil=>exact Nat.le_refl _
 |cons y r ih=>
  unfold okT at h
  rw[List.all_cons,Bool.and_eq_true]at h
  have h1:=of_decide_eq_true h.1
  have h2:=ih h.2
  have hsz:y.size=y.data.toList.length:=by rw[Array.length_toList];rfl
  unfold jtl at*
  rw[List.map_cons,List.flatten_cons,List.length_append,List.length_cons,List.length_cons,Nat.succ_mul]
  omega
theorem app_mk (a:List UInt8) (y:ByteArray):(⟨a.toArray⟩:ByteArray)++y=⟨(a++y.data.toList).toArray⟩:=by
 apply ByteArray.ext
 simp
theorem okT_take {r:List ByteArray} (h:okT r=true) (i:Nat):okT (r.take i)=true:=List.all_eq_true.2 fun p hp=>List.all_eq_true.1 h p (List.mem_of_mem_take hp)
theorem ba_ext (T:List UInt8) (a b:Nat):ByteArray.extract ⟨T.toArray⟩ a b=⟨((T.take b).drop a).toArray⟩:=by
 apply ByteArray.ext
 apply Array.toList_inj.1
 rw[ext_list]
theorem powQ_pos (x:Q3) (h:x.1=false) (n:Nat):(powQ x n).1=false:=by
 induction n with
 |zero=>rfl
 |succ n ih=>
  show(lowN _ _ _).1=false
  unfold lowN
  rw[ih,h]
  rfl
theorem lowN_pos (p q:Nat):(lowN false p q).1=false:=rfl
theorem addQ_pos (x y:Q3) (hx:x.1=false) (hy:y.1=false):(addQ x y).1=false:=by
 unfold addQ
 rw[hx,hy,if_pos rfl]
 rfl
theorem mulQ_pos (x y:Q3) (hx:x.1=false) (hy:y.1=false):(mulQ x y).1=false:=by
 unfold mulQ
 rw[hx,hy]
 rfl
theorem sizeQ_pos (x:Q3) (n:Nat):(sizeQ x n).1=false:=by
 unfold sizeQ floorQ
 rw[addQ_pos _ _ (mulQ_pos _ _ rfl (powQ_pos _ rfl n)) rfl]
 rfl
end Go.Cm
