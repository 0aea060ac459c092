import Derived.Test.YtdpljomfkoojnaaGreatDoorCmZ
set_option linter.unusedVariables false
namespace Go.Cm
def Rep (S0:St) (D:Dr) (L:Nat->Prop) (S:St):Prop:=∀x,
 ((∀(i:Nat) us rd,L i->D[i]? =some (us,rd)->x∉us.map Up.loc)/\Same S S0 x)\/
 ∃(i:Nat) (us:List Up) (rd:List Nat),L i/\D[i]? =some (us,rd)/\x∈us.map Up.loc/\(∀(i':Nat) us' rd',L i'->i<i'->D[i']? =some (us',rd')->x∉us'.map Up.loc)/\Same S (S0.ups us) x
theorem rep_nil (S0:St) (D:Dr) (L:Nat->Prop) (h:∀i,¬L i):Rep S0 D L S0:=fun x=> .inl ⟨fun i _ _ hi=>absurd hi (h i),Same.refl S0 x⟩
theorem rep_congr {S0:St} {D:Dr} {L L':Nat->Prop} {S:St} (h:∀i,i<D.length->(L i↔L' i)) (hr:Rep S0 D L S):Rep S0 D L' S:=by
 have hD:∀(i:Nat) (d:List Up×List Nat),D[i]? =some d->i<D.length:=fun i d hd=>(List.getElem?_eq_some_iff.1 hd).1
 intro x;rcases hr x with ⟨h1,h2⟩|⟨i,us,rd,h1,h2,h3,h4,h5⟩
 ·exact .inl ⟨fun i us rd hi hd=>h1 i us rd ((h i (hD i _ hd)).2 hi) hd,h2⟩
 ·exact .inr ⟨i,us,rd,(h i (hD i _ h2)).1 h1,h2,h3,fun i' us' rd' hi hlt hd=>h4 i' us' rd' ((h i' (hD i' _ hd)).2 hi) hlt hd,h5⟩
theorem rep_same {S0:St} {D:Dr} {L L':Nat->Prop} {S S':St} {x:Nat} (hr:Rep S0 D L S) (hr':Rep S0 D L' S') (h:∀(i:Nat) us rd,D[i]? =some (us,rd)->x∈us.map Up.loc->(L i↔L' i)):Same S S' x:=by
 rcases hr x with ⟨h1,h2⟩|⟨i,us,rd,h1,h2,h3,h4,h5⟩<;>rcases hr' x with ⟨k1,k2⟩|⟨i',us',rd',k1,k2,k3,k4,k5⟩
 ·exact h2.trans k2.symm
 ·exact absurd k3 (h1 i' us' rd' ((h i' us' rd' k2 k3).2 k1) k2)
 ·exact absurd h3 (k1 i us rd ((h i us rd h2 h3).1 h1) h2)
 ·have:i=i':=by
   rcases Nat.lt_trichotomy i i' with hlt|he|hlt
   ·exact absurd k3 (h4 i' us' rd' ((h i' us' rd' k2 k3).2 k1) hlt k2)
   ·exact he
   ·exact absurd h3 (k4 i us rd ((h i us rd h2 h3).1 h1) hlt h2)
  subst this;rw[h2]at k2;cases k2;exact h5.trans k5.symm
theorem rep_step {S0:St} {D:Dr} {L:Nat->Prop} {S:St} {j:Nat} {us:List Up} {rd:List Nat} (hr:Rep S0 D L S) (hj:D[j]? =some (us,rd)) (hd:∀(i:Nat) us' rd',L i->j<i->D[i]? =some (us',rd')->∀x∈us.map Up.loc,x∉us'.map Up.loc):Rep S0 D (fun i=>i=j\/L i) (S.ups us):=by
 intro x
 by_cases hx:x∈us.map Up.loc
 ·refine .inr ⟨j,us,rd, .inl rfl,hj,hx,fun i' us' rd' hi hlt hd'=> ?_,ups_in hx⟩;rcases hi with hi|hi
  ·omega
  ·exact hd i' us' rd' hi hlt hd' x hx
 ·have hs:=ups_out (S:=S) hx;rcases hr x with ⟨h1,h2⟩|⟨i,us',rd',h1,h2,h3,h4,h5⟩
  ·refine .inl ⟨fun i us' rd' hi hd'=> ?_,hs.trans h2⟩;rcases hi with hi|hi
   ·subst hi;rw[hj]at hd';cases hd';exact hx
   ·exact h1 i us' rd' hi hd'
  ·refine .inr ⟨i,us',rd', .inr h1,h2,h3,fun i' us2 rd2 hi hlt hd'=> ?_,hs.trans h5⟩;rcases hi with hi|hi
   ·subst hi;rw[hj]at hd';cases hd';exact hx
   ·exact h4 i' us2 rd2 hi hlt hd'
theorem rep_lex (S0:St) (D:Dr):∀j,j<=D.length->Rep S0 D (fun i=>i<j) (lexS S0 (D.take j))
 |0,_=>rep_nil S0 D _ (fun i=>by omega)
 |j+1,h=>by
  have hj:D[j]? =some D[j]:=List.getElem?_eq_getElem (by omega);have h1:lexS S0 (D.take (j+1))=(lexS S0 (D.take j)).ups D[j].1:=by
   rw[List.take_add_one,hj,lexS,List.foldl_append];rfl
  rw[h1];refine rep_congr ?_ (rep_step (rep_lex S0 D j (by omega)) (rd:=D[j].2) hj (fun i us' rd' hi hlt _=>by omega));intro i _;constructor<;>intro hi<;>omega
theorem filter_lt {p q:Nat->Bool} :∀ {l:List Nat},(∀x∈l,q x=true->p x=true)->(∃x∈l,p x=true/\q x=false)->(l.filter q).length<(l.filter p).length
 | [],_,⟨x,hx,_⟩=>by simp at hx
 |y::l,h,⟨x,hx,h1,h2⟩=>by
  have hle:∀l':List Nat,(∀x∈l',q x=true->p x=true)->(l'.filter q).length<=(l'.filter p).length:=by
   intro l'
   induction l' with
   |nil=>intro _;simp
   |cons z l' ih=>
    intro hz;have:=ih (fun x hx=>hz x (by simp [hx]))
    by_cases hq:q z=true
    ·have hp:=hz z (by simp) hq;simp [hq,hp];exact this
    ·by_cases hp:p z=true
     ·simp [hq,hp];omega
     ·simp [hq,hp];exact this
  simp only[List.mem_cons]at hx;rcases hx with hx|hx
  ·subst hx;have:=hle l (fun x hx=>h x (by simp [hx]));simp [h1,h2];omega
  ·have:=filter_lt (p:=p) (q:=q) (l:=l) (fun x hx=>h x (by simp [hx])) ⟨x,hx,h1,h2⟩
   by_cases hq:q y=true
   ·have hp:=h y (by simp) hq;simp [hq,hp];exact this
   ·by_cases hp:p y=true
    ·simp [hq,hp];omega
    ·simp [hq,hp];exact this
def edgesOk:Nat->List Oper->Bool
 |_,[]=>true
 |j,o::r=>(o.after.toList.all fun e=> !(Region.binds .any e)||Nat.blt e.on j)&&edgesOk (j+1) r
theorem edgesOk_spec:∀ {ops:List Oper} {j0:Nat},edgesOk j0 ops=true->∀ {j:Nat} {o:Oper},ops[j]? =some o->∀e∈o.after.toList,Region.binds .any e=true->e.on<j0+j
 | [],_,_,_,_,h=>by simp at h
 |o::ops,j0,hk,j,o',h=>by
  simp only[edgesOk,Bool.and_eq_true,List.all_eq_true,Bool.or_eq_true,Bool.not_eq_true']at hk;cases j with
  |zero=>
   simp only[List.getElem?_cons_zero,Option.some.injEq]at h;subst h;intro e he hb;rcases hk.1 e he with h1|h1
   ·rw[hb]at h1;cases h1
   ·have:=Nat.le_of_ble_eq_true h1;omega
  |succ j=>
   intro e he hb;have:=edgesOk_spec hk.2 (j:=j) (by simpa using h) e he hb;omega
section
variable {cx:Cx} {E:En}
theorem mem_ready {ops:List Oper} {listed:Array Bool} {i:Nat} (h:i∈Region.ready .any ops.toArray listed):∃o,ops[i]? =some o/\listed.getD i true=false/\∀e∈o.after.toList,Region.binds .any e=true->listed.getD e.on false=true:=by
 simp only[Region.ready,List.mem_filter,List.mem_range,Bool.and_eq_true,Bool.not_eq_true']at h;obtain⟨h1,h2,h3⟩:=h;cases ho:ops[i]? with
 |none=>simp [ho]at h3
 |some o=>
  simp only[List.getElem?_toArray,ho,Option.map_some,Option.getD_some]at h3;refine⟨o,rfl,h2,fun e he hb=> ?_⟩;rw[Array.all_eq_true']at h3;have:=h3 e (by simpa using he);simpa [hb]using this
theorem ready_mem {ops:List Oper} {listed:Array Bool} {i:Nat} {o:Oper} (ho:ops[i]? =some o) (h1:listed.getD i true=false) (h2:∀e∈o.after.toList,Region.binds .any e=true->listed.getD e.on false=true):i∈Region.ready .any ops.toArray listed:=by
 simp only[Region.ready,List.mem_filter,List.mem_range,Bool.and_eq_true,Bool.not_eq_true'];refine⟨?_,h1,?_⟩
 ·have:=(List.getElem?_eq_some_iff.1 ho).1;simpa using this
 ·simp only[List.getElem?_toArray,ho,Option.map_some,Option.getD_some];rw[Array.all_eq_true'];intro e he
  by_cases hb:Region.binds .any e=true
  ·simp [hb,h2 e (by simpa using he) hb]
  ·simp [hb]
def left (n:Nat) (listed:Array Bool):Nat:=((List.range n).filter fun i=> !listed.getD i true).length
theorem getD_set (listed:Array Bool) (i j:Nat) (d:Bool) (hi:i<listed.size):(listed.setIfInBounds i true).getD j d=if j=i then true else listed.getD j d:=by
 simp only[Array.getD_eq_getD_getElem?,Array.getElem?_setIfInBounds]
 by_cases h:j=i
 ·subst h;simp [hi]
 ·have h':¬i=j:=fun e=>h e.symm
  simp [h,h']
theorem anyOrder (ht:TdsOk cx E.P) (hct:CtsOk cx E.P E.gl) {ops:List Oper} {D:Dr} {S0:St} {Q:Exit->Act->World->Prop} (hdst:∀o∈ops,dstOk E.n o) (hed:edgesOk 0 ops=true) (hl:D.length=ops.length)
  (hD:∀i o,ops[i]? =some o->∃us rd,D[i]? =some (us,rd)/\(gstep cx false ops o).ev (lexS S0 (D.take i))=some us/\(gstep cx false ops o).log (lexS S0 (D.take i)) []=rd/\
   okWith (ancs [] ops) rd (us.map Up.loc) i 0 ((D.take i).map fun d=>(d.2,d.1.map Up.loc))=true)
  (hQ:∀α a w,Inv E (lexS S0 D) α a w->Q .normal a w):∀(fuel:Nat) (listed:Array Bool) (S:St) (α:Nat->CO) (a:Act) (w:World),listed.size=ops.length->left ops.length listed<=fuel->
   (∀j o i,ops[j]? =some o->listed.getD j false=true->i∈(ancs [] ops).getD j []->listed.getD i false=true)->Rep S0 D (fun i=>listed.getD i false=true) S->Inv E S α a w->
   wpAny E.P .any ops.toArray Q fuel listed a w:=by
 have hcf:∀ {i j:Nat} {us us':List Up} {rd rd':List Nat},i<j->D[i]? =some (us,rd)->D[j]? =some (us',rd')->i∈(ancs [] ops).getD j []\/((∀x∈us.map Up.loc,x∉rd')/\(∀x∈us.map Up.loc,x∉us'.map Up.loc)/\(∀x∈rd,x∉us'.map Up.loc)):=by
  intro i j us us' rd rd' hlt hi hj;have hjl:j<ops.length:=by rw[<-hl];exact(List.getElem?_eq_some_iff.1 hj).1
  obtain⟨us2,rd2,e1,e2,e3,e4⟩:=hD j _ (List.getElem?_eq_getElem hjl);rw[hj]at e1;cases e1;have:=okWith_spec e4 (i:=i) (ri:=rd) (wi:=us.map Up.loc) (by rw[List.getElem?_map,List.getElem?_take,if_pos hlt,hi];rfl);simpa using this
 have hb:∀(listed:Array Bool) (i:Nat),listed.size=ops.length->i<ops.length->listed.getD i true=listed.getD i false:=by
  intro listed i h1 h2;simp only[Array.getD_eq_getD_getElem?];rw[Array.getElem?_eq_getElem (by omega)];rfl
 have hend:∀(listed:Array Bool) (S:St) (α:Nat->CO) (a:Act) (w:World),listed.size=ops.length->Rep S0 D (fun i=>listed.getD i false=true) S->Inv E S α a w->Region.ready .any ops.toArray listed=[]->Q .normal a w:=by
  intro listed S α a w hsz hr hI hre;have hall:∀j,j<ops.length->listed.getD j false=true:=by
   intro j
   induction j using Nat.strongRecOn with
   |_ j ih=>
    intro hj
    by_cases hlj:listed.getD j false=true
    ·exact hlj
    ·have hm:=ready_mem (listed:=listed) (List.getElem?_eq_getElem hj) (by rw[hb listed j hsz hj];simpa using hlj) (fun e he hbi=>by
      have:=edgesOk_spec hed (List.getElem?_eq_getElem hj) e he hbi;exact ih e.on (by omega) (by omega))
     rw[hre]at hm;simp at hm
  have hS:S=lexS S0 D:=by
   refine same_all fun x=> ?_
   have hx:=rep_lex S0 D D.length (Nat.le_refl _);rw[List.take_length]at hx;refine rep_same hr hx (fun i us rd hi _=> ?_);have hil:=(List.getElem?_eq_some_iff.1 hi).1;exact⟨fun _=>hil,fun _=>hall i (by omega)⟩
  subst hS;exact hQ α a w hI
 intro fuel
 induction fuel with
 |zero=>
  intro listed S α a w hsz hle hcl hr hI;have hre:Region.ready .any ops.toArray listed=[]:=by
   cases hre:Region.ready .any ops.toArray listed with
   |nil=>rfl
   |cons i r=>
    obtain⟨o,ho,h1,h2⟩:=mem_ready (ops:=ops) (listed:=listed) (i:=i) (by rw[hre];simp);have hi:=(List.getElem?_eq_some_iff.1 ho).1;have:i∈(List.range ops.length).filter fun i=> !listed.getD i true:=by
     rw[List.mem_filter,List.mem_range,h1];exact⟨hi,rfl⟩
    have hpos:=List.length_pos_of_mem this;simp only[left]at hle;omega
  exact⟨hre,hend listed S α a w hsz hr hI hre⟩
 |succ fuel ih=>
  intro listed S α a w hsz hle hcl hr hI;refine⟨hend listed S α a w hsz hr hI,fun j hj=> ?_⟩;obtain⟨o,ho,h1,h2⟩:=mem_ready hj;have hjl:=(List.getElem?_eq_some_iff.1 ho).1;have hnl:listed.getD j false=false:=by rw[<-hb listed j hsz hjl];exact h1
  obtain⟨us,rd,e1,e2,e3,e4⟩:=hD j o ho;have hanc:∀i∈(ancs [] ops).getD j [],listed.getD i false=true:=by
   intro i hi;obtain⟨e,he,hbi,hie⟩:=ancs_spec (acc:=[]) ho (by simpa using hi);have hle2:=h2 e he hbi;rcases hie with hie|hie
   ·rw[hie];exact hle2
   ·have hlt:=edgesOk_spec hed ho e he hbi;exact hcl e.on _ i (List.getElem?_eq_getElem (show e.on<ops.length by omega)) hle2 hie
  have hlater:∀ {i:Nat} {us':List Up} {rd':List Nat},listed.getD i false=true->j<i->D[i]? =some (us',rd')->(∀x∈us.map Up.loc,x∉us'.map Up.loc)/\(∀x∈rd,x∉us'.map Up.loc):=by
   intro i us' rd' hi hlt hd;rcases hcf hlt e1 hd with h|⟨_,h2,h3⟩
   ·have hil:=(List.getElem?_eq_some_iff.1 hd).1;have:=hcl i _ j (List.getElem?_eq_getElem (show i<ops.length by omega)) hi h;rw[hnl]at this;cases this
   ·exact⟨h2,h3⟩
  have hev:(gstep cx false ops o).ev S=some us:=by
   rw[<-e2];refine ev_local (S:=lexS S0 (D.take j)) _ (lg:=[]) (fun x hx=> ?_);rw[e3]at hx;refine(rep_same hr (rep_lex S0 D j (by omega)) (fun i us' rd' hi hxi=> ?_)).symm;constructor
   ·intro hli;rcases Nat.lt_trichotomy i j with hlt|he|hlt
    ·exact hlt
    ·subst he;rw[hnl]at hli;cases hli
    ·exact absurd hxi ((hlater hli hlt hi).2 x hx)
   ·intro hlt;rcases hcf hlt hi e1 with h|⟨g1,_,_⟩
    ·exact hanc i h
    ·exact absurd hx (g1 x hxi)
  have hg:=gstep_sound ht hct hI (hdst o (List.mem_of_getElem? ho)) hev (wpAny E.P .any ops.toArray Q fuel (listed.setIfInBounds j true)) Q (fun α' a' w' hI'=>by
   refine ih _ (S.ups us) α' a' w' (by simpa using hsz) ?_ ?_ ?_ hI'
   ·have:left ops.length (listed.setIfInBounds j true)<left ops.length listed:=by
     refine filter_lt (fun x _ hx=> ?_) ⟨j,by simpa using hjl,by simp [h1],?_⟩
     ·rw[getD_set listed j x true (by omega)]at hx;split at hx
      ·simp at hx
      ·exact hx
     ·rw[getD_set listed j j true (by omega)];simp
    omega
   ·intro j' o' i hj' hlj' hi;rw[getD_set listed j j' false (by omega)]at hlj';rw[getD_set listed j i false (by omega)]
    by_cases hij:i=j
    ·simp [hij]
    ·rw[if_neg hij];split at hlj'
     ·rename_i he;subst he;exact hanc i hi
     ·exact hcl j' o' i hj' hlj' hi
   ·refine rep_congr ?_ (rep_step hr e1 (fun i us' rd' hi hlt hd=>(hlater hi hlt hd).1));intro i _;rw[getD_set listed j i false (by omega)]
    by_cases hij:i=j<;>simp [hij])
  unfold wpOp;simp only[List.getElem?_toArray,ho];split
  ·rename_i hw;rw[if_pos hw]at hg;exact .inl hg
  ·rename_i hw;rw[if_neg hw]at hg;exact hg
theorem runDraw_sound (hm:E.P.follows .mixedOrders=true) (ht:TdsOk cx E.P) (hct:CtsOk cx E.P E.gl) {R:Type} {ops:List Oper} {Q:Exit->Act->World->Prop} {r:R} {S:St} {α:Nat->CO} {a:Act} {w:World} {κ:St->Option R} {id:Nat}
  (hdst:∀o∈ops,dstOk E.n o) (hed:edgesOk 0 ops=true) (hI:Inv E S α a {w with drawn:=w.drawn+1}) (hr:runDraw cx ops (ancs [] ops) ops 0 S [] κ=some r) (hq:∀S' α' a' w',Inv E S' α' a' w'->κ S'=some r->Q .normal a' w'):
  (Code.region id ops.toArray true).wp E.P Q a w:=by
 obtain⟨D,d1,d2,d3⟩:=runDraw_data hr;refine wp_region_any hm ?_;refine anyOrder ht hct (D:=D) (S0:=S) hdst hed d1 (fun i o ho=> ?_) (fun α' a' w' hI'=>hq _ α' a' w' hI' d2) _ _ S α a _ (by simp) ?_ ?_ ?_ hI
 ·obtain⟨us,rd,e1,e2,e3,e4⟩:=d3 i o ho;exact⟨us,rd,e1,e2,e3,by simpa using e4⟩
 ·simp only[left];refine Nat.le_trans (List.length_filter_le _ _) (by simp)
 ·intro j o i hj hl _;simp only[Array.getD_eq_getD_getElem?,Array.getElem?_replicate]at hl;split at hl<;>simp at hl
 ·refine rep_nil S D _ (fun i hi=> ?_);simp only[Array.getD_eq_getD_getElem?,Array.getElem?_replicate]at hi;split at hi<;>simp at hi
end
end Go.Cm
