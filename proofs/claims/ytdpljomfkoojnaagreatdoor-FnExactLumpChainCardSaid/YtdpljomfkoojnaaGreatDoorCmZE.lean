import Derived.Test.YtdpljomfkoojnaaGreatDoorCmZD
import Derived.Laws.Sem
set_option linter.unusedVariables false
namespace Go.Cm
def isArr:AO->Bool
 | .arr _ _ _ _=>true
 | .rows _ _ _ _ _=>true
 |_=>false
section
variable {cx:Cx} {E:En} {S:St} {α:Nat->CO} {a:Act} {w:World}
def resOne (tmps:Array Value):ResultVar->Sem Value:=fun
 | .tmp t=>pure (tmps.getD t undef)
 | .cell a t=>do loadVar t (<-asAddr (tmps.getD a undef))
theorem resV_sound (ht:TdsOk cx E.P) (h:Inv E S α a w):∀ {rv:List ResultVar} {vs:List AV},(resV cx rv).ev S=some vs->∃us,(rv.mapM (resOne a.tmps)).run E.P w= .ok us w/\Al (VR (R0 E S.heap α w)) vs us
 | [],vs,hr=>by
  have:=ret_ev hr;subst this;exact⟨[],by simp [List.mapM_nil], .nil⟩
 | .tmp t::rv,vs,hr=>by
  simp only[resV,Cm.ev]at hr;obtain⟨vs',h1,h2⟩:=bind_ev hr;have:=ret_ev h2;subst this;obtain⟨us,u1,u2⟩:=resV_sound ht h h1;refine⟨a.tmps.getD t undef::us,?_, .cons (h.slt t) u2⟩;rw[List.mapM_cons];simp [resOne,u1]
 | .cell x t::rv,vs,hr=>by
  simp only[resV,Cm.ev]at hr;obtain⟨c,hc,h3⟩:=sg_ev hr;obtain⟨d,hf,h4⟩:=tdOf_ev h3;have hx:=h.slt x;rw[hc]at hx;obtain⟨b,oo,ws,cs,e1,e2,e3,e4⟩:=cellsAt_ev h (vr_c0_inv hx) h4;split at e4
  case isFalse=>exact(fail_ev e4).elim
  rename_i hl;obtain⟨vs',h5,h6⟩:=bind_ev e4;have:=ret_ev h6;subst this;obtain⟨us,u1,u2⟩:=resV_sound ht h h5;have hvl:(ws.take d.k.sz).length=d.k.sz:=by rw[<-(e2.take _).length,hl]
  have hrun:=run_loadVar (ht t d hf) (w:=w) (b:=b) (o:=oo) (us:=ws.take d.k.sz) hvl (fun j u hj=>e3 j u (by
   rw[List.getElem?_take]at hj;split at hj
   ·exact hj
   ·cases hj))
  refine⟨enc d.ag (ws.take d.k.sz)::us,?_, .cons (al_enc1 (e2.take _) (fun hg=>by rw[hl];exact(ht t d hf).one hg)) u2⟩;rw[List.mapM_cons];simp [resOne,u1,e1,asAddr,hrun]
theorem run_results {fn:Func} {tmps:Array Value} {P:Program} {us:List Value} (h:(fn.results.toList.mapM (resOne tmps)).run P w= .ok us w) (hn:fn.results.size=us.length) {tup:Bool} (ht:tup= !(Nat.beq fn.results.size 1)):
  (results fn tmps).run P w= .ok (bval tup us) w:=by
 have h1:(fn.results.mapM (resOne tmps)).run P w= .ok us.toArray w:=by
  rw[Array.mapM_eq_mapM_toList];simp [h]
 have h2:results fn tmps=(fn.results.mapM (resOne tmps)>>=fun vs=>pure (if h:vs.size=1 then vs[0]else .tuple vs)):=by
  unfold results;congr 1
 rw[h2];simp only[Sem.run_bind,h1];rw[hn]at ht;subst ht
 match us with
 | []=>rfl
 | [u]=>rfl
 |u::v::r=>rfl
theorem outs_sound (h:Inv E S α a w) {γ:Nat->CO} {U:Nat->Nat->Prop} (hU:∀b o,U b o->MM E.M0 S.heap α b o):∀ {ps:List PK} {i:Nat} {x:PTy ps} {m:MTy ps},(outs i ps).ev S=some m->(∀j,i<=j->isArr (inHeap i ps x (8*j)).2=true->E.γ (8*j)=γ j)->MuBack w U γ i ps m
 | [],i,x,m,hr,hγ=>trivial
 | .ro k::ps,i,x,m,hr,hγ=>outs_sound (ps:=ps) (i:=i+1) (x:=x.2) h hU hr (fun j hj hi=>hγ j (by omega) hi)
 | .bo k::ps,i,x,m,hr,hγ=>outs_sound (ps:=ps) (i:=i+1) (x:=x.2) h hU hr (fun j hj hi=>hγ j (by omega) hi)
 | .pm k::ps,i,x,m,hr,hγ=>outs_sound (ps:=ps) (i:=i+1) (x:=x.2) h hU hr (fun j hj hi=>hγ j (by omega) hi)
 | .fn k::ps,i,x,m,hr,hγ=>outs_sound (ps:=ps) (i:=i+1) (x:=x.2) h hU hr (fun j hj hi=>hγ j (by omega) hi)
 | .mu k::ps,i,x,m,hr,hγ=>by
  simp only[outs,Cm.ev]at hr;split at hr
  case h_2=>exact(fail_ev hr).elim
  rename_i k' full hob;split at hr
  case isFalse=>exact(fail_ev hr).elim
  rename_i hk;subst hk;obtain⟨m',h1,h2⟩:=bind_ev hr;have:=ret_ev h2;subst this;simp only[castL_rfl];have hfr:=h.frn (8*i) (by rw[hob];rfl);have hor:=h.obj (8*i);obtain⟨A,cap,real,hα⟩:=arr_co h hob;rw[hob,hα]at hor;obtain⟨c1,c2,c3,c4,c5⟩:=hor;have hγi:E.γ (8*i)=γ i:=hγ i (Nat.le_refl _) (by simp [inHeap,isArr]);rw[hα]at hfr;have hfr:CO.arr A cap real=E.γ (8*i):=hfr;refine⟨⟨A,cap,real,by rw[<-hγi,<-hfr],c1.2 rfl,fun b o hA q y hy=> ?_⟩,outs_sound (ps:=ps) (i:=i+1) (x:=x.2) h hU h1 (fun j hj hi=>hγ j (by omega) ?_)⟩
  ·obtain⟨es,e1,e2,_⟩:=(c5 b o hA).1 q y hy;exact⟨es,e1.mono (Keeps.less hU),e2⟩
  ·have hne:¬8*j=8*i:=by omega
   simp only[inHeap,beq_iff,hne,decide_false,cond_false];exact hi
 | .mr k::ps,i,x,m,hr,hγ=>by
  simp only[outs,Cm.ev]at hr;split at hr
  case h_2=>exact(fail_ev hr).elim
  rename_i k' rg hdr inn hob;split at hr
  case isFalse=>exact(fail_ev hr).elim
  rename_i hk;subst hk;simp only[Cm.ev]at hr;split at hr
  ·cases hr
  rename_i hdup;have hdup:dup (hdr.map fun p=>p.1)=false:=by simpa using hdup
  obtain⟨m',h1,h2⟩:=bind_ev hr;have:=ret_ev h2;subst this;simp only[castL_rfl];have hfr:=h.frn (8*i) (by rw[hob];rfl);obtain⟨A,cap,real,ms,hα,R⟩:=rows_co h hob;have hview:=rows_view R (len:=hdr.length) (Nat.le_refl _) (by rw[List.take_length];exact hdup) false cap R.len (Nat.le_refl _) R.full (fun h=>by cases h) (M':=U) hU;rw[List.take_length]at hview;rw[hα]at hfr;obtain⟨msg,hg1,hg2⟩:=hfr;have hγi:E.γ (8*i)=γ i:=hγ i (Nat.le_refl _) (by simp [inHeap,isArr,ao0]);refine⟨⟨A,cap,real,msg,viewMs hdr ms hdr.length,by rw[<-hγi,hg1],fun q hq=>hg2 q (hview.2 q hq),hview.1⟩,outs_sound (ps:=ps) (i:=i+1) (x:=x.2) h hU h1 (fun j hj hi=>hγ j (by omega) ?_)⟩;have hne:¬8*j=8*i:=by omega
  simp only[inHeap,beq_iff,hne,decide_false,cond_false];exact hi
theorem in_obj {M0 W0:Nat->Nat->Prop} {γ:Nat->CO} :∀ {ps:List PK} {i:Nat} {x:PTy ps} {us:List Value},ArgsRel w M0 W0 γ i ps x us->∀l,inHeap i ps x l=(0, .no)\/
  (∃(j:Nat) (k:Kd) (xs:List k.Ty) (u:Value),l=8*j/\i<=j/\inHeap i ps x l=(0, .arr false false k xs)/\MuArg w M0 W0 k xs (γ j) u/\us[j - i]? =some u/\∀b o,fp (.arr false false k []) (γ j) b o->muFp γ i ps j b o)\/
  ∃(j:Nat) (k:Kd) (xs:List (List k.Ty×Nat)) (u:Value),l=8*j/\i<=j/\inHeap i ps x l=(0,ao0 false k xs)/\MrArg w M0 W0 k xs (γ j) u/\∀b o,fp (.rows false k 0 [] []) (γ j) b o->muFp γ i ps j b o
 | [],i,x,us,h,l=> .inl rfl
 | .ro k::ps,i,x,us,h,l=>by
  obtain⟨u,us',rfl,_,h3⟩:=h;rcases in_obj h3 l with h|⟨j,k,xs,u,e1,e2,e3,e4,e6,e5⟩|⟨j,k,xs,u,e1,e2,e3,e4,e5⟩
  ·exact .inl h
  ·exact .inr (.inl ⟨j,k,xs,u,e1,by omega,e3,e4,by rw[show j - i=(j - (i+1))+1 by omega];simpa using e6,e5⟩)
  ·exact .inr (.inr ⟨j,k,xs,u,e1,by omega,e3,e4,e5⟩)
 | .bo k::ps,i,x,us,h,l=>by
  obtain⟨u,us',rfl,_,h3⟩:=h;rcases in_obj h3 l with h|⟨j,k,xs,u,e1,e2,e3,e4,e6,e5⟩|⟨j,k,xs,u,e1,e2,e3,e4,e5⟩
  ·exact .inl h
  ·exact .inr (.inl ⟨j,k,xs,u,e1,by omega,e3,e4,by rw[show j - i=(j - (i+1))+1 by omega];simpa using e6,e5⟩)
  ·exact .inr (.inr ⟨j,k,xs,u,e1,by omega,e3,e4,e5⟩)
 | .pm k::ps,i,x,us,h,l=>by
  obtain⟨u,us',rfl,_,h3⟩:=h;rcases in_obj h3 l with h|⟨j,k,xs,u,e1,e2,e3,e4,e6,e5⟩|⟨j,k,xs,u,e1,e2,e3,e4,e5⟩
  ·exact .inl h
  ·exact .inr (.inl ⟨j,k,xs,u,e1,by omega,e3,e4,by rw[show j - i=(j - (i+1))+1 by omega];simpa using e6,e5⟩)
  ·exact .inr (.inr ⟨j,k,xs,u,e1,by omega,e3,e4,e5⟩)
 | .fn k::ps,i,x,us,h,l=>by
  obtain⟨u,us',rfl,_,h3⟩:=h;rcases in_obj h3 l with h|⟨j,k,xs,u,e1,e2,e3,e4,e6,e5⟩|⟨j,k,xs,u,e1,e2,e3,e4,e5⟩
  ·exact .inl h
  ·exact .inr (.inl ⟨j,k,xs,u,e1,by omega,e3,e4,by rw[show j - i=(j - (i+1))+1 by omega];simpa using e6,e5⟩)
  ·exact .inr (.inr ⟨j,k,xs,u,e1,by omega,e3,e4,e5⟩)
 | .mu k::ps,i,x,us,h,l=>by
  obtain⟨u,us',rfl,h2,h3⟩:=h
  by_cases hl:l=8*i
  ·right
   left
   refine⟨i,k,x.1,u,hl,Nat.le_refl _,?_,h2,by simp,fun b o hf=> .inl ⟨rfl,hf⟩⟩;simp only[inHeap,beq_iff,hl,decide_true,cond_true]
  ·have hh:inHeap i (.mu k::ps) x l=inHeap (i+1) ps x.2 l:=by simp only[inHeap,beq_iff,hl,decide_false,cond_false]
   rw[hh];rcases in_obj h3 l with h|⟨j,k,xs,u,e1,e2,e3,e4,e6,e5⟩|⟨j,k,xs,u,e1,e2,e3,e4,e5⟩
   ·exact .inl h
   ·exact .inr (.inl ⟨j,k,xs,u,e1,by omega,e3,e4,by rw[show j - i=(j - (i+1))+1 by omega];simpa using e6,fun b o hf=> .inr (e5 b o hf)⟩)
   ·exact .inr (.inr ⟨j,k,xs,u,e1,by omega,e3,e4,fun b o hf=> .inr (e5 b o hf)⟩)
 | .mr k::ps,i,x,us,h,l=>by
  obtain⟨u,us',rfl,h2,h3⟩:=h
  by_cases hl:l=8*i
  ·right
   right
   refine⟨i,k,x.1,u,hl,Nat.le_refl _,?_,h2,fun b o hf=> .inl ⟨rfl,hf⟩⟩;simp only[inHeap,beq_iff,hl,decide_true,cond_true]
  ·have hh:inHeap i (.mr k::ps) x l=inHeap (i+1) ps x.2 l:=by simp only[inHeap,beq_iff,hl,decide_false,cond_false]
   rw[hh];rcases in_obj h3 l with h|⟨j,k,xs,u,e1,e2,e3,e4,e6,e5⟩|⟨j,k,xs,u,e1,e2,e3,e4,e5⟩
   ·exact .inl h
   ·exact .inr (.inl ⟨j,k,xs,u,e1,by omega,e3,e4,by rw[show j - i=(j - (i+1))+1 by omega];simpa using e6,fun b o hf=> .inr (e5 b o hf)⟩)
   ·exact .inr (.inr ⟨j,k,xs,u,e1,by omega,e3,e4,fun b o hf=> .inr (e5 b o hf)⟩)
theorem args_len {M0 W0:Nat->Nat->Prop} {γ:Nat->CO} :∀ {ps:List PK} {i:Nat} {x:PTy ps} {us:List Value},ArgsRel w M0 W0 γ i ps x us->us.length=ps.length
 | [],i,x,us,h=>by rw[h];rfl
 | .ro k::ps,i,x,us,h=>by obtain⟨u,us',rfl,_,h3⟩:=h;simp [args_len h3]
 | .bo k::ps,i,x,us,h=>by obtain⟨u,us',rfl,_,h3⟩:=h;simp [args_len h3]
 | .pm k::ps,i,x,us,h=>by obtain⟨u,us',rfl,_,h3⟩:=h;simp [args_len h3]
 | .fn k::ps,i,x,us,h=>by obtain⟨u,us',rfl,_,h3⟩:=h;simp [args_len h3]
 | .mu k::ps,i,x,us,h=>by obtain⟨u,us',rfl,_,h3⟩:=h;simp [args_len h3]
 | .mr k::ps,i,x,us,h=>by obtain⟨u,us',rfl,_,h3⟩:=h;simp [args_len h3]
theorem sz_one {k:Kd} {cs:List Value} {x:k.Ty} {w:World} {M:Nat->Nat->Prop} (h:RdC w M k cs x) (hk:(isSt k||Nat.beq k.sz 1)=true):isSt k=false->k.sz=1:=by
 intro hs;rw[hs,beq_iff]at hk;simpa using hk
def okPs:List PK->Bool
 | []=>true
 | .ro k::r=>(isSt k||Nat.beq k.sz 1)&&okPs r
 | .bo k::r=>(isSt k||Nat.beq k.sz 1)&&okPs r
 | .pm _::r=>okPs r
 |_::r=>okPs r
theorem in_env {M0 W0 M Mb:Nat->Nat->Prop} {γ:Nat->CO} {H:Nat->Nat×AO} (hM:∀b o,M b o->M0 b o) (hW:∀b o,Mb b o->W0 b o):∀ {ps:List PK} {i:Nat} {x:PTy ps} {us:List Value},okPs ps=true->ArgsRel w M0 W0 γ i ps x us->
  (∀j,i<=j->isArr (inHeap i ps x (8*j)).2=true->H (8*j)=inHeap i ps x (8*j)/\α (8*j)=γ j)->∀(val:Nat->Value),(∀(q:Nat) u,us[q]? =some u->val (i+q)=u)->∀s,VR (VR0 w M Mb H α) (inEnv i ps x s) (val s)
 | [],i,x,us,hk,h,hH,val,hv,s=>vr_c0 trivial
 | .ro k::ps,i,x,us,hk,h,hH,val,hv,s=>by
  simp only[okPs,Bool.and_eq_true]at hk;obtain⟨u,us',rfl,⟨cs,e1,e2⟩,h3⟩:=h;simp only[inEnv,beq_iff]
  by_cases hs:s=i
  ·simp only[hs,decide_true,cond_true];rw[show val i=u from hv 0 u rfl,e1];exact vr_unpack (fl:=false) (e2.mono (Keeps.less hM)) (sz_one e2 hk.1)
  ·simp only[hs,decide_false,cond_false];exact in_env hM hW hk.2 h3 (fun j hj hi=>hH j (by omega) hi) val (fun q u hq=>by rw[show i+1+q=i+(q+1) by omega];exact hv (q+1) u (by simpa using hq)) s
 | .bo k::ps,i,x,us,hk,h,hH,val,hv,s=>by
  simp only[okPs,Bool.and_eq_true]at hk;obtain⟨u,us',rfl,⟨cs,e1,e2⟩,h3⟩:=h;simp only[inEnv,beq_iff]
  by_cases hs:s=i
  ·simp only[hs,decide_true,cond_true];rw[show val i=u from hv 0 u rfl,e1];exact vr_unpack (fl:=true) (e2.mono (Keeps.less hW)) (sz_one e2 hk.1)
  ·simp only[hs,decide_false,cond_false];exact in_env hM hW hk.2 h3 (fun j hj hi=>hH j (by omega) hi) val (fun q u hq=>by rw[show i+1+q=i+(q+1) by omega];exact hv (q+1) u (by simpa using hq)) s
 | .pm k::ps,i,x,us,hk,h,hH,val,hv,s=>by
  obtain⟨u,us',rfl,⟨b,o,es,e1,e2,e3⟩,h3⟩:=h;simp only[inEnv,beq_iff]
  by_cases hs:s=i
  ·simp only[hs,decide_true,cond_true];rw[show val i=u from hv 0 u rfl];exact vr_c0 ⟨b,o,es,e1,e2.mono (Keeps.less hM),e3.mono (Keeps.less hW)⟩
  ·simp only[hs,decide_false,cond_false];have hk':okPs ps=true:=hk;exact in_env hM hW hk' h3 (fun j hj hi=>hH j (by omega) hi) val (fun q u hq=>by rw[show i+1+q=i+(q+1) by omega];exact hv (q+1) u (by simpa using hq)) s
 | .fn f::ps,i,x,us,hk,h,hH,val,hv,s=>by
  obtain⟨u,us',rfl,e1,h3⟩:=h;simp only[inEnv,beq_iff]
  by_cases hs:s=i
  ·simp only[hs,decide_true,cond_true];rw[show val i=u from hv 0 u rfl,e1];exact vr_vl rfl
  ·simp only[hs,decide_false,cond_false];exact in_env (ps:=ps) (x:=x.2) hM hW hk h3 (fun j hj hi=>hH j (by omega) hi) val (fun q u hq=>by rw[show i+1+q=i+(q+1) by omega];exact hv (q+1) u (by simpa using hq)) s
 | .mu k::ps,i,x,us,hk,h,hH,val,hv,s=>by
  obtain⟨u,us',rfl,e1,h3⟩:=h;simp only[inEnv,beq_iff]
  by_cases hs:s=i
  ·simp only[hs,decide_true,cond_true];rw[show val i=u from hv 0 u rfl];have hi:inHeap i (.mu k::ps) x (8*i)=(0, .arr false false k x.1):=by simp [inHeap]
   obtain⟨g1,g2⟩:=hH i (Nat.le_refl _) (by rw[hi];rfl);rw[hi]at g1;obtain⟨A,real,a1,a2,_⟩:=e1;refine vr_c0 ⟨⟨Nat.zero_le _,fun _=> ?_⟩,?_⟩
   ·rw[g1,g2,a1];exact refAt_none a2
   ·obtain⟨A',rfl,_⟩:=a2;rfl
  ·simp only[hs,decide_false,cond_false];refine in_env (ps:=ps) (x:=x.2) hM hW hk h3 (fun j hj hi=> ?_) val (fun q u hq=>by rw[show i+1+q=i+(q+1) by omega];exact hv (q+1) u (by simpa using hq)) s;have hh:inHeap i (.mu k::ps) x (8*j)=inHeap (i+1) ps x.2 (8*j):=by
    have:¬8*j=8*i:=by omega
    simp only[inHeap,beq_iff,this,decide_false,cond_false]
   have:=hH j (by omega) (by rw[hh];exact hi);rwa [hh]at this
 | .mr k::ps,i,x,us,hk,h,hH,val,hv,s=>by
  obtain⟨u,us',rfl,e1,h3⟩:=h;simp only[inEnv,beq_iff]
  by_cases hs:s=i
  ·simp only[hs,decide_true,cond_true];rw[show val i=u from hv 0 u rfl];have hi:inHeap i (.mr k::ps) x (8*i)=(0,ao0 false k x.1):=by simp [inHeap]
   obtain⟨g1,g2⟩:=hH i (Nat.le_refl _) (by rw[hi];rfl);rw[hi]at g1;obtain⟨A,real,ms,a1,a2,_⟩:=e1;refine vr_c0 ⟨⟨Nat.zero_le _,fun _=> ?_⟩,?_⟩
   ·rw[g1,g2,a1];exact⟨by show 0+vlen (hd0 x.1) none<=(hd0 x.1).length;simp [vlen],by show SlAt A 0 (hd0 x.1).length (real - 0) u;rw[hd0_length];exact a2⟩
   ·obtain⟨A',rfl,_⟩:=a2;rfl
  ·simp only[hs,decide_false,cond_false];refine in_env (ps:=ps) (x:=x.2) hM hW hk h3 (fun j hj hi=> ?_) val (fun q u hq=>by rw[show i+1+q=i+(q+1) by omega];exact hv (q+1) u (by simpa using hq)) s;have hh:inHeap i (.mr k::ps) x (8*j)=inHeap (i+1) ps x.2 (8*j):=by
    have:¬8*j=8*i:=by omega
    simp only[inHeap,beq_iff,this,decide_false,cond_false]
   have:=hH j (by omega) (by rw[hh];exact hi);rwa [hh]at this
theorem res_len {w':World} {M':Nat->Nat->Prop} {β:Nat->AO×CO} {us0:List Value} :∀ {rs:List RK} {j:Nat} {x:RkTy rs} {vs:List Value},ResR w' M' β us0 j rs x vs->vs.length=rs.length
 | [],j,x,vs,h=>by rw[h];rfl
 | [r],j,x,vs,h=>by obtain⟨cs,rfl,_⟩:=h;rfl
 |r::s::t,j,x,vs,h=>by
  obtain⟨cs,vs',rfl,_,_,h4⟩:=h;simp only[List.length_cons,res_len h4]
theorem al_e {R:A0->Value->Prop} {e:Nat->AV} :∀ {n s:Nat} {us:List Value},us.length=n->(∀(q:Nat) u,us[q]? =some u->VR R (e (s+q)) u)->(∀u,R .bot u)->Al R (cellsE e s n) us
 |0,s,us,hl,h,hb=>by
  have:us=[]:=List.length_eq_zero_iff.1 hl;subst this;exact .nil
 |n+1,s,[],hl,h,hb=>by simp at hl
 |n+1,s,u::us,hl,h,hb=>by
  refine .cons ?_ (al_e (by simpa using hl) (fun q u hq=>by rw[Nat.add_assoc,Nat.add_comm 1 q];exact h (q+1) u (by simpa using hq)) hb);have h0:=h 0 u rfl;rw[Nat.add_zero]at h0;unfold a0;split
  ·rename_i c he;rw[he]at h0;exact vr_c0_inv h0
  ·exact hb u
def arOk:List Nat->Nat->Bool
 | [],n=>Nat.beq n 0
 |0::r,n+1=>arOk r n
 |0::_,0=>false
 |(m+1)::r,n=>Nat.ble (m+1) n&&arOk r (n - (m+1))
theorem gEnv_ok {R:A0->Value->Prop} {e:Nat->AV} (hb:∀u,R .bot u) {val:Nat->Value} :∀ {ar:List Nat} {i s:Nat} {us:List Value},arOk ar us.length=true->(∀(q:Nat) u,us[q]? =some u->VR R (e (s+q)) u)->(∀(q:Nat) u,(gat ar us)[q]? =some u->val (i+q)=u)->
  ∀t,VR R (gEnv e ar i s t) (val t)
 | [],i,s,us,ha,h,hv,t=>⟨[val t],rfl, .cons (hb _) .nil,fun _=>rfl⟩
 |0::r,i,s,[],ha,h,hv,t=>by simp [arOk]at ha
 |0::r,i,s,u::us,ha,h,hv,t=>by
  simp only[gEnv,beq_iff]
  by_cases ht:t=i
  ·simp only[ht,decide_true,cond_true];rw[show val i=u from hv 0 u rfl];exact h 0 u rfl
  ·simp only[ht,decide_false,cond_false];exact gEnv_ok hb (us:=us) (by simpa [arOk]using ha) (fun q u hq=>by rw[Nat.add_assoc,Nat.add_comm 1 q];exact h (q+1) u (by simpa using hq)) (fun q u hq=>by rw[Nat.add_assoc,Nat.add_comm 1 q];exact hv (q+1) u (by simpa [gat]using hq)) t
 |(n+1)::r,i,s,us,ha,h,hv,t=>by
  simp only[arOk,Bool.and_eq_true]at ha;have hle:n+1<=us.length:=Nat.le_of_ble_eq_true ha.1;simp only[gEnv,beq_iff]
  by_cases ht:t=i
  ·simp only[ht,decide_true,cond_true];rw[show val i=_ from hv 0 _ rfl];refine⟨us.take (n+1),rfl,al_e (by rw[List.length_take];omega) (fun q u hq=> ?_) hb,fun h=>by cases h⟩;rw[List.getElem?_take]at hq;split at hq
   ·exact h q u hq
   ·cases hq
  ·simp only[ht,decide_false,cond_false];refine gEnv_ok hb (us:=us.drop (n+1)) (by rw[List.length_drop];exact ha.2) (fun q u hq=> ?_) (fun q u hq=>by rw[Nat.add_assoc,Nat.add_comm 1 q];exact hv (q+1) u (by simpa [gat]using hq)) t;rw[List.getElem?_drop]at hq;rw[Nat.add_assoc];exact h _ u hq
theorem gat_len:∀ {ar:List Nat} {us:List Value},arOk ar us.length=true->(gat ar us).length=ar.length
 | [],us,h=>by
  simp only[arOk,beq_iff,decide_eq_true_iff]at h;exact h
 |0::r,[],h=>by simp [arOk]at h
 |0::r,u::us,h=>by
  simp only[gat,List.length_cons];rw[gat_len (by simpa [arOk]using h)]
 |(n+1)::r,us,h=>by
  simp only[arOk,Bool.and_eq_true]at h;simp only[gat,List.length_cons];rw[gat_len (by rw[List.length_drop];exact h.2)]
def grpOk (ar:List Nat) (n m:Nat):Bool:=match ar with
 | []=>Nat.ble n m
 |a::r=>arOk (a::r) n&&Nat.ble (a::r).length m
def fnOk (fn:Func) (c:Code) (ps:List PK) (tup:Bool) (rs:List RK) (ar:List Nat):Bool:=
 codeOk fn.ntmps c&&grpOk ar ps.length fn.ntmps&&okPs ps&& !(fn.name== "runtime.NumGoroutine")&&Nat.beq fn.results.size rs.length&&(tup== !(Nat.beq fn.results.size 1))
theorem slAt_same {A:Option (Nat×Nat)} {n real:Nat} {u0 u:Value} (h0:SlAt A 0 n real u0) (h:SlAt A 0 n real u):∀A' d len c,SlAt A' d len c u0->SlAt A' d len c u:=by
 obtain⟨X,rfl,h1,h2⟩:=h0;obtain⟨Y,rfl,g1,g2⟩:=h
 rintro A' d len c ⟨Z,hz,k1,k2⟩
 simp only[Value.slice.injEq]at hz;obtain⟨rfl,rfl,rfl⟩:=hz;refine⟨Y,rfl,k1,fun hc=> ?_⟩;obtain⟨b,o,e1,e2⟩:=h2 hc;obtain⟨b',o',e1',e2'⟩:=g2 hc;obtain⟨b3,o3,e3,e4⟩:=k2 hc;rw[e1]at e1';cases e1';exact⟨b3,o3,e3,by rw[e2',<-e2];exact e4⟩
theorem valid {P:Program} {gl:List (Nat×List Value)} {fx:Fx} {f:Nat} {fn:Func} {c:Code} {ct:Ct} (hm:P.follows .mixedOrders=true) (ht:TdsOk fx.cx P) (hct:CtsOk fx.cx P gl) (hf:P.funcs[f]? =some fn) (hb:fn.body=some c) (hok:fnOk fn c ct.ps ct.tup ct.rs ct.ar=true)
  (hx:∀x,ct.fn x=execF fx fn.results.toList c ct.ps ct.rs ct.ar x):Valid P gl f ct:=by
 simp only[fnOk,Bool.and_eq_true,Bool.not_eq_true']at hok;obtain⟨⟨⟨⟨⟨k1,k2⟩,k3⟩,k4⟩,k5⟩,k6⟩:=hok;refine⟨⟨fn,hf,k4,by rw[hb];rfl⟩,fun w M0 W0 us x γ hM0 hW0 hlay hargs hdisj r hr=> ?_⟩;rw[hx]at hr;have hul:=args_len hargs;have hn:(gat ct.ar us).length<=fn.ntmps:=by
  unfold grpOk at k2;split at k2
  ·rename_i he;rw[he];show us.length<=_;rw[hul];exact Nat.le_of_ble_eq_true k2
  ·rename_i p q he;rw[Bool.and_eq_true]at k2;rw[he,gat_len (by rw[hul];exact k2.1)];exact Nat.le_of_ble_eq_true k2.2
 let γ':Nat->CO:=fun l=>if isArr (inHeap 0 ct.ps x l).2=true then γ (l/8)else .no
 have hobj:=in_obj hargs;have hγ':∀l A cap,γ' l= .arr A cap 0->A=none:=by
  intro l A cap hl;rcases hobj l with h|⟨j,k,xs,u,e1,e2,e3,e4,e6,e5⟩|⟨j,k,xs,u,e1,e2,e3,e4,e5⟩
  ·simp only[γ',h,isArr]at hl;cases hl
  ·simp only[γ',e3,isArr,if_true]at hl;obtain⟨A',real,a1,a2,a3,a4,_⟩:=e4;rw[show l/8=j by omega,a1]at hl;cases hl;exact a4.2 rfl
  ·simp only[γ',e3,isArr,ao0,if_true]at hl;obtain⟨A',real,ms,a1,_⟩:=e4;rw[show l/8=j by omega,a1]at hl;cases hl
 let E:En:=⟨P,gl,w,fn.ntmps,M0,W0,hM0,hW0,γ',hγ',hlay⟩
 have hfp:∀l b o,fp (inHeap 0 ct.ps x l).2 (γ' l) b o->∃j,l=8*j/\W0 b o/\isMine (inHeap 0 ct.ps x l).2=false/\muFp γ 0 ct.ps j b o:=by
  intro l b o h;rcases hobj l with h'|⟨j,k,xs,u,e1,e2,e3,e4,e6,e5⟩|⟨j,k,xs,u,e1,e2,e3,e4,e5⟩
  ·rw[h']at h;cases hq:γ' l<;>rw[hq]at h<;>exact h.elim
  ·have hγl:γ' l=γ j:=by simp only[γ',e3,isArr,if_true];rw[show l/8=j by omega]
   rw[e3,hγl]at h;refine⟨j,e1,?_,by rw[e3];rfl,e5 b o ?_⟩
   ·obtain⟨A,real,a1,a2,a3,a4,a5⟩:=e4;rw[a1]at h;cases A with
    |none=>exact h.elim
    |some p=>
     obtain⟨rfl,h2,h3⟩:=h;have:=((a5 p.1 p.2 rfl).2 (o - p.2) (by omega)).1;rwa [show p.2+(o - p.2)=o by omega]at this
   ·obtain⟨A,real,a1,_⟩:=e4;rw[a1]at h ⊢;cases A with
    |none=>exact h.elim
    |some p=>exact h
  ·have hγl:γ' l=γ j:=by simp only[γ',e3,isArr,ao0,if_true];rw[show l/8=j by omega]
   rw[e3,hγl]at h;obtain⟨A,real,ms,a1,a2,a3,a4⟩:=e4;have h':fp (.rows false k 0 [] []) (γ j) b o:=by
    rw[a1]at h ⊢;exact h
   exact⟨j,e1,a4 b o h',by rw[e3];rfl,e5 b o h'⟩
 have hMM:∀b o,MM M0 (inHeap 0 ct.ps x) γ' b o->M0 b o:=by
  intro b o h;rcases h with h|⟨l,h⟩
  ·exact h
  ·obtain⟨j,_,h2,_⟩:=hfp l b o h;exact hW0 b o h2
 have hWW:∀b o,MM W0 (inHeap 0 ct.ps x) γ' b o->W0 b o:=by
  intro b o h;rcases h with h|⟨l,h⟩
  ·exact h
  ·obtain⟨j,_,h2,_⟩:=hfp l b o h;exact h2
 have htmps:∀(vs:List Value) (q:Nat) u,vs[q]? =some u->(vs.toArray++Array.replicate (fn.ntmps - vs.toArray.size) undef).getD (0+q) undef=u:=by
  intro vs q u hq;have hlt:q<vs.length:=(List.getElem?_eq_some_iff.1 hq).1;rw[Nat.zero_add,Array.getD_eq_getD_getElem?,Array.getElem?_append_left (by simpa using hlt)];simp [hq]
 have hI:Inv E ⟨grpE ct.ar (inEnv 0 ct.ps x),inHeap 0 ct.ps x⟩ γ' {tmps:=(gat ct.ar us).toArray++Array.replicate (fn.ntmps - (gat ct.ar us).toArray.size) undef,defers:=[] } w:=by
  refine⟨Fr.refl _ _,?_,?_,?_,?_,rfl,?_,fun l _=>Frn.refl _⟩
  ·intro l l' b o hne h1 h2;obtain⟨j,e1,_,_,e4⟩:=hfp l b o h1;obtain⟨j',e1',_,_,e4'⟩:=hfp l' b o h2;exact hdisj j j' b o (by omega) e4 e4'
  ·intro l b o h;obtain⟨j,e1,e2,e3,_⟩:=hfp l b o h;exact .inr ⟨e2,e3⟩
  ·intro l;show OR w (MM M0 (inHeap 0 ct.ps x) γ') (MM W0 (inHeap 0 ct.ps x) γ') (inHeap 0 ct.ps x) γ' (inHeap 0 ct.ps x l).2 (γ' l);rcases hobj l with h'|⟨j,k,xs,u,e1,e2,e3,e4,e6,e5⟩|⟨j,k,xs,u,e1,e2,e3,e4,e5⟩
   ·rw[h'];cases γ' l<;>trivial
   ·have hγl:γ' l=γ j:=by simp only[γ',e3,isArr,if_true];rw[show l/8=j by omega]
    rw[e3,hγl];obtain⟨A,real,a1,a2,a3,a4,a5⟩:=e4;rw[a1];refine⟨⟨Nat.le_refl _,fun _=>rfl⟩,a3,(fun h=>by cases h),a4.1,fun b o hA=> ?_⟩;obtain⟨b1,b2⟩:=a5 b o hA;refine⟨fun i y hy=> ?_,fun _ j hj=>(b2 j hj).2⟩;obtain⟨es,c1,c2⟩:=b1 i y hy;exact⟨es,c1.mono (Keeps.less hMM),c2,fun h=>by cases h⟩
   ·have hγl:γ' l=γ j:=by simp only[γ',e3,isArr,ao0,if_true];rw[show l/8=j by omega]
    rw[e3,hγl];obtain⟨A,real,ms,a1,a2,a3,a4⟩:=e4;rw[a1];exact RowsOk.mono (rg:=0) (Keeps.less hMM) (fun b i v _ hc=>⟨hc,rfl⟩) a3
  ·have hin:∀(val:Nat->Value),(∀(q:Nat) u,us[q]? =some u->val (0+q)=u)->∀s,VR (R0 E (inHeap 0 ct.ps x) γ' w) (inEnv 0 ct.ps x s) (val s):=fun val hval s=>by
    refine in_env (γ:=γ) hMM hWW k3 hargs (fun j _ hj=>⟨rfl,?_⟩) val hval s;simp only[γ',hj,if_true];rw[show 8*j/8=j by omega]
   intro s;unfold grpOk at k2;show VR (R0 E (inHeap 0 ct.ps x) γ' w) (grpE ct.ar (inEnv 0 ct.ps x) s) (((gat ct.ar us).toArray++Array.replicate (fn.ntmps - (gat ct.ar us).toArray.size) undef).getD s undef);split at k2
   ·rename_i he;rw[he];exact hin (fun s=>(us.toArray++Array.replicate (fn.ntmps - us.toArray.size) undef).getD s undef) (htmps us) s
   ·rename_i p q he;rw[Bool.and_eq_true]at k2;rw[he];refine gEnv_ok (fun _=>trivial) (us:=us) (val:=fun s=>((gat (p::q) us).toArray++Array.replicate (fn.ntmps - (gat (p::q) us).toArray.size) undef).getD s undef) (by rw[hul];exact k2.1) (fun j u hj=> ?_) (htmps (gat (p::q) us)) s;have:=hin (fun s=>us.getD s undef) (fun j u hj=>by rw[Nat.zero_add,List.getD_eq_getElem?_getD,hj];rfl) (0+j);rw[List.getD_eq_getElem?_getD,Nat.zero_add,hj]at this;rw[Nat.zero_add];exact this
  ·simp only[Array.size_append,Array.size_replicate,List.size_toArray];show(gat ct.ar us).length+(fn.ntmps - (gat ct.ar us).length)=fn.ntmps;omega
 refine calls_of_wp hf hb (exec_sound (E:=E) hm ht hct c k1 hI hr (fun e S' α' a' w' hi hk=> ?_));have key:∀ {S':St},Inv E S' α' a' w'->(finish fx.cx fn.results.toList ct.ps ct.rs).run S' some=some r->a'.defers=[]/\∃v,(results fn a'.tmps).run P w'= .ok v w'/\
   (fun(e:Ending) w'=>∃vs,e= .returned (bval ct.tup vs)/\Fr W0 w w'/\
   ∃β:Nat->AO×CO,(∀j b o,fp (β j).1 (β j).2 b o->j∈ownR 0 ct.rs/\w.heap.size<=b)/\(∀j j' b o,j≠j'->fp (β j).1 (β j).2 b o->fp (β j').1 (β j').2 b o->False)/\
    ResR w' (fun b o=>M0 b o\/∃j,fp (β j).1 (β j).2 b o) β us 0 ct.rs r.1 vs/\
    MuBack w' (fun b o=>M0 b o\/∃j,fp (β j).1 (β j).2 b o) γ 0 ct.ps r.2) (.returned v) w':=by
  intro S' hi hk;rw[Cm.run_eq]at hk;obtain⟨r',h0,h1⟩:=Option.bind_eq_some_iff.1 hk;cases h1;unfold finish at h0;obtain⟨vs,h1,h2⟩:=bind_ev h0;obtain⟨p,h3,h4⟩:=bind_ev h2;split at h4
  ·exact(fail_ev h4).elim
  rename_i hdc;simp only[Bool.or_eq_true,not_or,Bool.not_eq_true]at hdc;obtain⟨m,h5,h6⟩:=bind_ev h4;have:=ret_ev h6;subst this;obtain⟨vals,v1,v2⟩:=resV_sound ht hi h1;have hal:AlOk S' α' us:=by
   intro i k full A cap real u hob hα hsl;have hfr:=hi.frn (8*i) (by rw[hob];rfl);rw[hα]at hfr;have hfr:CO.arr A cap real=γ' (8*i):=hfr;have hor:=hi.obj (8*i);rw[hob,hα]at hor;have hcap:=hor.1.2 rfl;rcases hobj (8*i)with h'|⟨j,k',xs,u0,e1,e2,e3,e4,e6,e5⟩|⟨j,k',xs,u0,e1,e2,e3,e4,e5⟩
   ·simp only[γ',h',isArr]at hfr;cases hfr
   ·have hj:j=i:=by omega
    subst hj;obtain⟨A',real',a1,a2,_⟩:=e4;simp only[γ',e3,isArr,if_true]at hfr;rw[show 8*j/8=j by omega,a1]at hfr;cases hfr;refine⟨u0,by simpa using e6,?_⟩;rw[hcap]at hsl;exact slAt_same a2 hsl
   ·have hj:j=i:=by omega
    subst hj;obtain⟨A',real',ms,a1,_⟩:=e4;simp only[γ',e3,isArr,ao0,if_true]at hfr;rw[show 8*j/8=j by omega,a1]at hfr;cases hfr
  obtain⟨β,f1,f2⟩:=finR_sound hi hal (j:=0) h3 v2 hdc.1;have hU:∀b o,(M0 b o\/∃j,fp (β j).1 (β j).2 b o)->MM E.M0 S'.heap α' b o:=by
   intro b o hu;rcases hu with hu|⟨j,hf⟩
   ·exact .inl hu
   ·obtain⟨_,l,_,hl⟩:=f1.ow j b o hf;exact .inr ⟨l,hl⟩
  have hOk:OkU E S' α' (fun b o=>M0 b o\/∃j,fp (β j).1 (β j).2 b o) p.used:=by
   refine⟨hU,fun l hl b o hu hf=> ?_⟩;have hmi:=f1.mine l (.inr hl);rcases hu with hu|⟨j,hj⟩
   ·exact absurd (hM0 b o hu) (Nat.not_lt.2 (mine_new hi hf hmi))
   ·obtain⟨_,l',h7,h8⟩:=f1.ow j b o hj;exact hi.dsj l l' b o (fun e=>clash_false hdc.2 l hl (e▸h7)) hf h8
  have hres:=f2 _ β hOk (fun _ _=>rfl);have hlen:=res_len hres;have hsz:fn.results.size=vals.length:=by
   rw[hlen];exact Nat.eq_of_beq_eq_true k5
  refine⟨hi.dfr,_,run_results v1 hsz (tup:=ct.tup) (by simpa using k6),vals,rfl,hi.fr,β,fun j b o hf=> ?_,f1.dsj,hres,?_⟩
  ·obtain⟨g1,l,g2,g3⟩:=f1.ow j b o hf;exact⟨g1,mine_new hi g3 (f1.mine l (.inl g2))⟩
  ·refine outs_sound hi (γ:=γ) (x:=x) hU h5 (fun j _ hj=> ?_);show γ' (8*j)=γ j;simp only[γ',hj,if_true];rw[show 8*j/8=j by omega]
 cases e with
 |nrm=>exact key hi hk
 |rtn=>exact key hi hk
 |ext i=>cases hk
theorem Valid.less {P:Program} {gl:List (Nat×List Value)} {f:Nat} {ps:List PK} {tup:Bool} {rs:List RK} {g:Nat->PTy ps->Option (RkTy rs×MTy ps)} {g':PTy ps->Option (RkTy rs×MTy ps)} {ar:List Nat} (h:∀k,Valid P gl f ⟨ps,tup,rs,g k,ar⟩) (hg:∀x r,g' x=some r->∃k,g k x=some r):Valid P gl f ⟨ps,tup,rs,g',ar⟩:=by
 refine⟨(h 0).1,fun w M0 W0 us x γ h1 h2 h5 h3 h4 r hr=> ?_⟩;obtain⟨k,hk⟩:=hg x r hr;exact(h k).2 w M0 W0 us x γ h1 h2 h5 h3 h4 r hk
end
end Go.Cm
