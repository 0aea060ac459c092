import Derived.Test.YtdpljomfkoojnaaGreatDoorCmY
import Derived.Deep.LoopGhost
import Derived.Orders
set_option linter.unusedVariables false
namespace Go.Cm
def Same (A B:St) (x:Nat):Prop:=(∀s,x=2*s->A.env s=B.env s)/\(∀l,x=2*l+1->A.heap l=B.heap l)
theorem Same.refl (A:St) (x:Nat):Same A A x:=⟨fun _ _=>rfl,fun _ _=>rfl⟩
theorem Same.symm {A B:St} {x:Nat} (h:Same A B x):Same B A x:=⟨fun s e=>(h.1 s e).symm,fun l e=>(h.2 l e).symm⟩
theorem Same.trans {A B C:St} {x:Nat} (h:Same A B x) (k:Same B C x):Same A C x:=⟨fun s e=>(h.1 s e).trans (k.1 s e),fun l e=>(h.2 l e).trans (k.2 l e)⟩
theorem same_all {A B:St} (h:∀x,Same A B x):A=B:=by
 cases A with
 |mk e1 h1=>cases B with
  |mk e2 h2=>
   have a:e1=e2:=funext fun s=>(h (2*s)).1 s rfl
   have b:h1=h2:=funext fun l=>(h (2*l+1)).2 l rfl
   rw[a,b]
theorem up_out {S:St} {u:Up} {x:Nat} (h:x≠u.loc):Same (S.up u) S x:=by
 cases u with
 |put s v=>
  refine⟨fun t e=> ?_,fun _ _=>rfl⟩;have ht:¬t=s:=fun ht=>h (by rw[e,ht];rfl)
  simp only[St.up,beq_iff,ht,decide_false,cond_false]
 |set l g v=>
  refine⟨fun _ _=>rfl,fun t e=> ?_⟩;have ht:¬t=l:=fun ht=>h (by rw[e,ht];rfl)
  simp only[St.up,beq_iff,ht,decide_false,cond_false]
theorem up_same_in {S S':St} {u:Up} {x:Nat} (h:x=u.loc):Same (S.up u) (S'.up u) x:=by
 cases u with
 |put s v=>
  refine⟨fun t e=> ?_,fun l e=> ?_⟩
  ·have ht:t=s:=by simp only[Up.loc]at h;omega
   simp only[St.up,beq_iff,ht,decide_true,cond_true]
  ·simp only[Up.loc]at h;omega
 |set l g v=>
  refine⟨fun l e=> ?_,fun t e=> ?_⟩
  ·simp only[Up.loc]at h;omega
  ·have ht:t=l:=by simp only[Up.loc]at h;omega
   simp only[St.up,beq_iff,ht,decide_true,cond_true]
theorem up_keeps {S S':St} {u:Up} {x:Nat} (h:Same S S' x):Same (S.up u) (S'.up u) x:=by
 by_cases hx:x=u.loc
 ·exact up_same_in hx
 ·exact(up_out hx).trans (h.trans (up_out hx).symm)
theorem ups_keeps {x:Nat} :∀ {us:List Up} {S S':St},Same S S' x->Same (S.ups us) (S'.ups us) x
 | [],_,_,h=>h
 |_::us,_,_,h=>ups_keeps (us:=us) (up_keeps h)
theorem ups_out {x:Nat} :∀ {us:List Up} {S:St},x∉us.map Up.loc->Same (S.ups us) S x
 | [],S,_=>Same.refl S x
 |u::us,S,h=>by
  simp only[List.map_cons,List.mem_cons,not_or]at h;exact(ups_out (us:=us) (S:=S.up u) h.2).trans (up_out h.1)
theorem ups_in {x:Nat} :∀ {us:List Up} {S S':St},x∈us.map Up.loc->Same (S.ups us) (S'.ups us) x
 | [],_,_,h=>by simp at h
 |u::us,S,S',h=>by
  simp only[List.map_cons,List.mem_cons]at h;rcases h with h|h
  ·exact ups_keeps (us:=us) (up_same_in h)
  ·exact ups_in (us:=us) h
def Cm.log {α:Type} (S:St):Cm α->List Nat->List Nat
 | .ret _,lg=>lg
 | .fail,lg=>lg
 | .slot s k,lg=>(k (S.env s)).log S ((2*s)::lg)
 | .obj l k,lg=>(k (S.heap l)).log S ((2*l+1)::lg)
 | .test c t e,lg=>if c=true then t.log S lg else e.log S lg
 | .opt x k,lg=>match x with
  |none=>lg
  |some y=>(k y).log S lg
theorem runL_eq {α R:Type} (S:St) (m:Cm α):∀(lg:List Nat) (κ:α->List Nat->Option R),m.runL S lg κ=(m.ev S).bind fun a=>κ a (m.log S lg):=by
 induction m with
 |ret a=>intros;rfl
 |fail=>intros;rfl
 |slot s k ih=>intro lg κ;exact ih _ _ κ
 |obj l k ih=>intro lg κ;exact ih _ _ κ
 |test c t e iht ihe=>
  intro lg κ;simp only[Cm.runL,Cm.ev,Cm.log];split
  ·exact iht lg κ
  ·exact ihe lg κ
 |opt x k ih=>
  intro lg κ;simp only[Cm.runL,Cm.ev];cases x with
  |none=>rfl
  |some y=>exact ih y lg κ
theorem log_sub {α:Type} {S:St} {x:Nat} (m:Cm α):∀ {lg:List Nat},x∈lg->x∈m.log S lg:=by
 induction m with
 |ret a=>intro lg h;exact h
 |fail=>intro lg h;exact h
 |slot s k ih=>intro lg h;exact ih _ (List.mem_cons_of_mem _ h)
 |obj l k ih=>intro lg h;exact ih _ (List.mem_cons_of_mem _ h)
 |test c t e iht ihe=>
  intro lg h;simp only[Cm.log];split
  ·exact iht h
  ·exact ihe h
 |opt x k ih=>
  intro lg h;cases x with
  |none=>exact h
  |some y=>exact ih y h
theorem ev_local {α:Type} {S S':St} (m:Cm α):∀ {lg:List Nat},(∀x∈m.log S lg,Same S S' x)->m.ev S'=m.ev S:=by
 induction m with
 |ret a=>intros;rfl
 |fail=>intros;rfl
 |slot s k ih=>
  intro lg h;have hs:S'.env s=S.env s:=((h (2*s) (log_sub (k (S.env s)) (List.mem_cons_self ..))).1 s rfl).symm;simp only[Cm.ev,hs];exact ih _ h
 |obj l k ih=>
  intro lg h;have hs:S'.heap l=S.heap l:=((h (2*l+1) (log_sub (k (S.heap l)) (List.mem_cons_self ..))).2 l rfl).symm;simp only[Cm.ev,hs];exact ih _ h
 |test c t e iht ihe=>
  intro lg h;simp only[Cm.ev];simp only[Cm.log]at h;split
  ·rename_i hc;rw[if_pos hc]at h;exact iht h
  ·rename_i hc;rw[if_neg hc]at h;exact ihe h
 |opt x k ih=>
  intro lg h;cases x with
  |none=>rfl
  |some y=>exact ih y h
abbrev Dr:=List (List Up×List Nat)
def lexS (S:St) (D:Dr):St:=D.foldl (fun S d=>S.ups d.1) S
theorem meets_no {a b:List Nat} (h:meets a b=false) {x:Nat} (ha:x∈a) (hb:x∈b):False:=by
 simp only[meets,List.any_eq_false,Bool.not_eq_true]at h;have:=h x ha x hb;rw[beq_iff]at this;simp at this
theorem okWith_spec {an:List (List Nat)} {rj wj:List Nat} {j:Nat} :∀ {l:List (List Nat×List Nat)} {i0:Nat},okWith an rj wj j i0 l=true->∀ {i:Nat} {ri wi:List Nat},l[i]? =some (ri,wi)->(i0+i)∈an.getD j []\/((∀x∈wi,x∉rj)/\(∀x∈wi,x∉wj)/\(∀x∈ri,x∉wj))
 | [],_,_,i,_,_,hi=>by simp at hi
 |(r,v)::l,i0,h,i,ri,wi,hi=>by
  simp only[okWith,Bool.and_eq_true,Bool.or_eq_true,Bool.not_eq_true',List.any_eq_true]at h;obtain⟨h1,h2⟩:=h;cases i with
  |zero=>
   simp only[List.getElem?_cons_zero,Option.some.injEq,Prod.mk.injEq]at hi;obtain⟨rfl,rfl⟩:=hi;rcases h1 with h1|⟨x,hx,he⟩
   ·simp only[Bool.or_eq_false_iff]at h1;obtain⟨⟨g1,g2⟩,g3⟩:=h1;exact .inr ⟨fun x a b=>meets_no g1 a b,fun x a b=>meets_no g2 a b,fun x a b=>meets_no g3 a b⟩
   ·rw[beq_iff]at he;simp only[decide_eq_true_eq]at he;subst he;exact .inl hx
  |succ i=>
   have:=okWith_spec h2 (i:=i) (by simpa using hi);rwa [show i0+1+i=i0+(i+1)from by omega]at this
theorem log_bind_ret {α β:Type} {S:St} (f:α->β) (m:Cm α):∀lg:List Nat,(m.bind fun x=> .ret (f x)).log S lg=m.log S lg:=by
 induction m with
 |ret a=>intro lg;rfl
 |fail=>intro lg;rfl
 |slot s k ih=>intro lg;exact ih _ _
 |obj l k ih=>intro lg;exact ih _ _
 |test c t e iht ihe=>
  intro lg;simp only[Cm.bind,Cm.log];split
  ·exact iht lg
  ·exact ihe lg
 |opt x k ih=>
  intro lg;cases x with
  |none=>rfl
  |some y=>exact ih y lg
theorem gstep_rf {cx:Cx} {all:List Oper} {o:Oper} {S:St} {us:List Up} (h:(gstep cx true all o).ev S=some us):
  (gstep cx false all o).ev S=some (dropG o us)/\(gstep cx true all o).log S []=(gstep cx false all o).log S []/\S.ups us=S.ups (dropG o us):=by
 unfold gstep at h ⊢;unfold dropG;cases hg:o.guard with
 |none=>
  rw[hg]at h;exact⟨h,rfl,rfl⟩
 |some q=>
  obtain⟨j,want⟩:=q;rw[hg]at h;dsimp only at h ⊢;cases hs:(all[j]?).bind (·.dst)with
  |none=>rw[hs]at h;exact(fail_ev h).elim
  |some s=>
   rw[hs]at h;simp only[Cm.ev]at h;simp only[Cm.ev,Cm.log];split at h
   ·rename_i b hb;simp only[Cm.ev]at h;simp only[Cm.ev,Cm.log];cases hbt:b
    ·rw[hbt]at h hb;simp only[Bool.false_eq_true,if_false]at h ⊢;obtain⟨vs,h1,h2⟩:=bind_ev h;have:=ret_ev h2;subst this;refine⟨?_,?_,?_⟩
     ·rw[Cm.ev_bind,h1];rfl
     ·rw[log_bind_ret,log_bind_ret]
     ·simp only[if_true,List.tail_cons];rw[ups_cons,up_same S (v:=vl (.bool false)) hb]
    ·rw[hbt]at h hb;simp only[if_true]at h ⊢;obtain⟨vs,h1,h2⟩:=bind_ev h;have:=ret_ev h2;subst this;refine⟨?_,?_,?_⟩
     ·rw[Cm.ev_bind,h1];rfl
     ·rw[log_bind_ret,log_bind_ret]
     ·simp only[List.tail_cons];rw[ups_cons,up_same S (v:=vl (.bool true)) hb]
   ·rename_i hb;have:=ret_ev h;subst this;refine⟨rfl,rfl,?_⟩;simp only[if_true,List.tail_cons];rw[ups_cons,up_same S (v:=skp) hb]
   ·exact(fail_ev h).elim
theorem runDraw_data {cx:Cx} {all:List Oper} {an:List (List Nat)} {R:Type} {r:R} {κ:St->Option R} :∀ {ops:List Oper} {j:Nat} {S:St} {lgs:List (List Nat×List Nat)},runDraw cx all an ops j S lgs κ=some r->
  ∃D:Dr,D.length=ops.length/\κ (lexS S D)=some r/\∀i o,ops[i]? =some o->∃us rd,D[i]? =some (us,rd)/\(gstep cx false all o).ev (lexS S (D.take i))=some us/\(gstep cx false all o).log (lexS S (D.take i)) []=rd/\
   okWith an rd (us.map Up.loc) (j+i) 0 (lgs++(D.take i).map fun d=>(d.2,d.1.map Up.loc))=true
 | [],j,S,lgs,h=>⟨[],rfl,h,fun i o hi=>by simp at hi⟩
 |o::ops,j,S,lgs,h=>by
  simp only[runDraw,runL_eq,Option.bind_eq_some_iff]at h;obtain⟨us0,h0,h2⟩:=h;obtain⟨h1,hlg,hup⟩:=gstep_rf h0;rw[hlg,hup]at h2;generalize dropG o us0=us at h1 h2;split at h2
  case isFalse=>cases h2
  rename_i hok;obtain⟨D,d1,d2,d3⟩:=runDraw_data h2;refine⟨(us,(gstep cx false all o).log S [])::D,by simp [d1],d2,fun i o' hi=> ?_⟩;cases i with
  |zero=>
   simp only[List.getElem?_cons_zero,Option.some.injEq]at hi;subst hi;exact⟨us,_,rfl,h1,rfl,by simpa using hok⟩
  |succ i=>
   obtain⟨us',rd,e1,e2,e3,e4⟩:=d3 i o' (by simpa using hi);refine⟨us',rd,by simpa using e1,e2,e3,?_⟩;rw[show j+(i+1)=j+1+i from by omega];simpa using e4
theorem ancs_pre:∀(ops:List Oper) (acc:List (List Nat)),∃t,ancs acc ops=acc++t
 | [],acc=>⟨[],by simp [ancs]⟩
 |o::ops,acc=>by
  obtain⟨t,ht⟩:=ancs_pre ops (acc++[o.after.toList.flatMap fun e=>if Region.binds .any e=true then e.on::acc.getD e.on []else []]);exact⟨_,by rw[ancs,ht,List.append_assoc]⟩
theorem ancs_spec:∀ {ops:List Oper} {acc:List (List Nat)} {j i:Nat} {o:Oper},ops[j]? =some o->i∈(ancs acc ops).getD (acc.length+j) []->∃e∈o.after.toList,Region.binds .any e=true/\(i=e.on\/i∈(ancs acc ops).getD e.on [])
 | [],_,_,_,_,h,_=>by simp at h
 |o::ops,acc,j,i,o',h,hi=>by
  cases j with
  |zero=>
   simp only[List.getElem?_cons_zero,Option.some.injEq]at h;subst h;obtain⟨t,ht⟩:=ancs_pre ops (acc++[o.after.toList.flatMap fun e=>if Region.binds .any e=true then e.on::acc.getD e.on []else []]);rw[ancs,ht]at hi ⊢;simp only[List.append_assoc,Nat.add_zero,List.getD_eq_getElem?_getD]at hi;rw[List.getElem?_append_right (Nat.le_refl _)]at hi;simp only[Nat.sub_self,List.cons_append,List.nil_append,List.getElem?_cons_zero,Option.getD_some,List.mem_flatMap]at hi;obtain⟨e,he,hm⟩:=hi;split at hm
   case isFalse=>simp at hm
   rename_i hb;refine⟨e,he,hb,?_⟩;simp only[List.mem_cons]at hm;rcases hm with hm|hm
   ·exact .inl hm
   ·right
    by_cases hl:e.on<acc.length
    ·rw[List.append_assoc,List.getD_eq_getElem?_getD,List.getElem?_append_left hl];exact hm
    ·rw[List.getElem?_eq_none (by omega)]at hm;simp at hm
  |succ j=>
   rw[ancs]at hi ⊢;refine ancs_spec (j:=j) (by simpa using h) ?_;rw[List.length_append,List.length_singleton,show acc.length+1+j=acc.length+(j+1)from by omega];exact hi
end Go.Cm
