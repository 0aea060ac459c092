import Derived.Test.YtdpljomfkoojnaaGreatDoorCmU
set_option linter.unusedVariables false
namespace Go.Cm
def muObj:(i:Nat)->List PK->List Mu->Nat->Nat
 |i, .mu _::ps,e::ls,j=>if j=i then e.ob else muObj (i+1) ps ls j
 |i, .mr _::ps,e::ls,j=>if j=i then e.ob else muObj (i+1) ps ls j
 |_, .mu _::_,[],_=>0
 |_, .mr _::_,[],_=>0
 |i, .ro _::ps,ls,j=>muObj (i+1) ps ls j
 |i, .bo _::ps,ls,j=>muObj (i+1) ps ls j
 |i, .pm _::ps,ls,j=>muObj (i+1) ps ls j
 |i, .fn _::ps,ls,j=>muObj (i+1) ps ls j
 |_,[],_,_=>0
theorem muFp_ge {γ:Nat->CO} :∀ {ps:List PK} {i j b o:Nat},muFp γ i ps j b o->i<=j
 | [],_,_,_,_,h=>h.elim
 | .mu _::ps,i,j,b,o,h=>by
  rcases h with ⟨rfl,_⟩|h
  ·exact Nat.le_refl _
  ·have:=muFp_ge h;omega
 | .mr _::ps,i,j,b,o,h=>by
  rcases h with ⟨rfl,_⟩|h
  ·exact Nat.le_refl _
  ·have:=muFp_ge h;omega
 | .ro _::ps,i,j,b,o,h=>by have:=muFp_ge (ps:=ps) h;omega
 | .bo _::ps,i,j,b,o,h=>by have:=muFp_ge (ps:=ps) h;omega
 | .pm _::ps,i,j,b,o,h=>by have:=muFp_ge (ps:=ps) h;omega
 | .fn _::ps,i,j,b,o,h=>by have:=muFp_ge (ps:=ps) h;omega
theorem shift_fp {k:Kd} {A:Option (Nat×Nat)} {cap real off len b o:Nat} {mine:Bool} {full xs:List k.Ty} (hc:off+len<=cap) (h:fp (.arr false false k xs) (shiftCO k.sz (.arr A cap real) off len) b o):
  ∃oo,A=some (b,oo)/\real - off≠0/\oo+off*k.sz<=o/\o<oo+off*k.sz+len*k.sz/\fp (.arr mine false k full) (.arr A cap real) b o:=by
 unfold shiftCO at h;dsimp only at h;split at h
 ·exact h.elim
 ·rename_i hne;cases A with
  |none=>exact h.elim
  |some p=>
   obtain⟨b',oo⟩:=p;obtain⟨rfl,h1,h2⟩:=h;have:(off+len)*k.sz<=cap*k.sz:=Nat.mul_le_mul_right _ hc;rw[Nat.add_mul]at this;exact⟨oo,rfl,hne,h1,h2,rfl,by omega,by omega⟩
section
variable {cx:Cx} {E:En} {S:St} {α:Nat->CO} {a:Act} {w:World} {o:Oper} {us:List Up}
theorem entA_fp (h:Inv E S α a w) {k:Kd} {x:List k.Ty} {c:CO} {e:Mu} (he:EntA S α k x c e) {b oo:Nat} (hf:fp (.arr false false k []) c b oo):fp (S.heap e.ob).2 (α e.ob) b oo:=by
 cases e with
 |arr l off len=>
  obtain⟨mine,full,A,cap,real,m1,m2,m3,m4,rfl⟩:=he;have hor:=h.obj l;rw[m1,m2]at hor;rw[m2]at hf;have hl1:=hor.1;obtain⟨o',q1,q2,q3,q4,q5⟩:=shift_fp (mine:=mine) (full:=full) (cap:=cap) (by omega) hf;show fp (S.heap l).2 (α l) b oo;rw[m1,m2];exact q5
 |row l q off len=>
  obtain⟨mine,rg,hdr,inn,A,cap,real,ms,m,xs,m1,m2,m3,m4,m5,m6,rfl⟩:=he;obtain⟨A',cap',real',ms',hα,R⟩:=rows_co h m1;rw[m2]at hα;cases hα;have hM:=R.mem q xs m m4 m3;obtain⟨o',q1,q2,q3,q4,q5⟩:=shift_fp (mine:=false) (full:=xs) (cap:=m.2.1) (by rw[hM.1];exact m5) hf;show fp (S.heap l).2 (α l) b oo;rw[m1,m2];have hmul:(off+len)*k.sz<=m.2.1*k.sz:=Nat.mul_le_mul_right _ (by rw[hM.1];exact m5);rw[Nat.add_mul]at hmul;exact .inr ⟨m,List.mem_of_getElem? m3,o',q1,by omega,by omega⟩
 |rows l len all=>exact he.elim
theorem entR_fp (h:Inv E S α a w) {k:Kd} {x:List (List k.Ty×Nat)} {c:CO} {e:Mu} (he:EntR S α k x c e) {b oo:Nat} (hf:fp (.rows false k 0 [] []) c b oo):fp (S.heap e.ob).2 (α e.ob) b oo:=by
 cases e with
 |rows l len all=>
  obtain⟨mine,rg,hdr,inn,A,cap,real,ms,m1,m2,m3,m4,m5,m6,m7,rfl⟩:=he;obtain⟨A',cap',real',ms',hα,R⟩:=rows_co h m1;rw[m2]at hα;cases hα;show fp (S.heap l).2 (α l) b oo;rw[m1,m2];have hv:=rows_view R m3 m6 false len (Nat.le_refl _) (Nat.le_trans m3 R.len) (fun _=>rfl) (fun h=>by cases h) (fun b o hm=>hm);rcases hf with ⟨o',q1,q2,q3⟩|⟨m,hm,hs⟩
  ·have:=R.len;exact .inl ⟨o',q1,q2,by omega⟩
  ·exact .inr ⟨m,hv.2 m hm,hs⟩
 |_=>exact he.elim
theorem muFp_obj (h:Inv E S α a w) {γ:Nat->CO} :∀ {ps:List PK} {i:Nat} {x:PTy ps} {ls:List Mu} {j b oo:Nat},MuOk S α γ i ps x ls->muFp γ i ps j b oo->
  fp (S.heap (muObj i ps ls j)).2 (α (muObj i ps ls j)) b oo/\muObj i ps ls j∈ls.map Mu.ob
 | [],_,_,_,_,_,_,_,hf=>hf.elim
 | .ro _::ps,i,x,ls,j,b,oo,hm,hf=>muFp_obj h (ps:=ps) (x:=x.2) hm hf
 | .bo _::ps,i,x,ls,j,b,oo,hm,hf=>muFp_obj h (ps:=ps) (x:=x.2) hm hf
 | .pm _::ps,i,x,ls,j,b,oo,hm,hf=>muFp_obj h (ps:=ps) (x:=x.2) hm hf
 | .fn _::ps,i,x,ls,j,b,oo,hm,hf=>muFp_obj h (ps:=ps) (x:=x.2) hm hf
 | .mu k::ps,i,x,ls,j,b,oo,hm,hf=>by
  obtain⟨e,ls',rfl,he,hm'⟩:=hm;rcases hf with ⟨rfl,hf⟩|hf
  ·simp only[muObj,if_true];exact⟨entA_fp h he hf,by simp⟩
  ·have hge:=muFp_ge hf;have hne:¬(j=i):=by omega
   obtain⟨q1,q2⟩:=muFp_obj h hm' hf;simp only[muObj,hne,if_false];exact⟨q1,by simp at q2 ⊢;exact .inr q2⟩
 | .mr k::ps,i,x,ls,j,b,oo,hm,hf=>by
  obtain⟨e,ls',rfl,he,hm'⟩:=hm;rcases hf with ⟨rfl,hf⟩|hf
  ·simp only[muObj,if_true];exact⟨entR_fp h he hf,by simp⟩
  ·have hge:=muFp_ge hf;have hne:¬(j=i):=by omega
   obtain⟨q1,q2⟩:=muFp_obj h hm' hf;simp only[muObj,hne,if_false];exact⟨q1,by simp at q2 ⊢;exact .inr q2⟩
theorem dup_not {x:Nat} {xs:List Nat} (h:dup (x::xs)=false):x∉xs/\dup xs=false:=by
 simp only[dup,Bool.or_eq_false_iff]at h;refine⟨fun hx=> ?_,h.2⟩;have:=List.any_eq_false.1 h.1 x hx;rw[beq_iff]at this;simp at this
theorem muObj_inj (h:Inv E S α a w) {γ:Nat->CO} :∀ {ps:List PK} {i:Nat} {x:PTy ps} {ls:List Mu} {j j' b b' oo oo':Nat},MuOk S α γ i ps x ls->dup (ls.map Mu.ob)=false->muFp γ i ps j b oo->muFp γ i ps j' b' oo'->
  muObj i ps ls j=muObj i ps ls j'->j=j'
 | [],_,_,_,_,_,_,_,_,_,_,_,hf,_,_=>hf.elim
 | .ro _::ps,i,x,ls,j,j',b,b',oo,oo',hm,hd,hf,hf',he=>muObj_inj h (ps:=ps) (x:=x.2) hm hd hf hf' he
 | .bo _::ps,i,x,ls,j,j',b,b',oo,oo',hm,hd,hf,hf',he=>muObj_inj h (ps:=ps) (x:=x.2) hm hd hf hf' he
 | .pm _::ps,i,x,ls,j,j',b,b',oo,oo',hm,hd,hf,hf',he=>muObj_inj h (ps:=ps) (x:=x.2) hm hd hf hf' he
 | .fn _::ps,i,x,ls,j,j',b,b',oo,oo',hm,hd,hf,hf',he=>muObj_inj h (ps:=ps) (x:=x.2) hm hd hf hf' he
 | .mu k::ps,i,x,ls,j,j',b,b',oo,oo',hm,hd,hf,hf',he=>by
  obtain⟨e,ls',rfl,hq,hm'⟩:=hm;obtain⟨d1,d2⟩:=dup_not hd;rcases hf with ⟨e1,hf⟩|hf<;>rcases hf' with ⟨e2,hf'⟩|hf'
  ·rw[e1,e2]
  ·have hge:=muFp_ge hf';have:=(muFp_obj h hm' hf').2;simp only[muObj,e1,if_true]at he;rw[if_neg (by omega)]at he;exact absurd (he▸this) d1
  ·have hge:=muFp_ge hf;have:=(muFp_obj h hm' hf).2;simp only[muObj,e2,if_true]at he;rw[if_neg (by omega)]at he;exact absurd (he▸this) d1
  ·have hge:=muFp_ge hf;have hge':=muFp_ge hf';simp only[muObj]at he;rw[if_neg (by omega),if_neg (by omega)]at he;exact muObj_inj h hm' d2 hf hf' he
 | .mr k::ps,i,x,ls,j,j',b,b',oo,oo',hm,hd,hf,hf',he=>by
  obtain⟨e,ls',rfl,hq,hm'⟩:=hm;obtain⟨d1,d2⟩:=dup_not hd;rcases hf with ⟨e1,hf⟩|hf<;>rcases hf' with ⟨e2,hf'⟩|hf'
  ·rw[e1,e2]
  ·have hge:=muFp_ge hf';have:=(muFp_obj h hm' hf').2;simp only[muObj,e1,if_true]at he;rw[if_neg (by omega)]at he;exact absurd (he▸this) d1
  ·have hge:=muFp_ge hf;have:=(muFp_obj h hm' hf).2;simp only[muObj,e2,if_true]at he;rw[if_neg (by omega)]at he;exact absurd (he▸this) d1
  ·have hge:=muFp_ge hf;have hge':=muFp_ge hf';simp only[muObj]at he;rw[if_neg (by omega),if_neg (by omega)]at he;exact muObj_inj h hm' d2 hf hf' he
def putA (S:St) (k:Kd) (m:List k.Ty):Mu->Option (Nat×AO)
 | .arr l off _=>match(S.heap l).2 with
   | .arr mine fz k' full=>if h:k=k' then some ((S.heap l).1, .arr mine fz k' (splice full (castL (k':= .sl k) (k:= .sl k') (by rw[h]) m) off))else none
   |_=>none
 | .row l i off _=>match(S.heap l).2 with
   | .rows mine k' rg hdr inn=>if h:k=k' then some ((S.heap l).1, .rows mine k' rg hdr (inn.set i (splice (inn.getD i []) (castL (k':= .sl k) (k:= .sl k') (by rw[h]) m) off)))else none
   |_=>none
 |_=>none
def putR (S:St) (k:Kd) (m:List (List k.Ty×Nat)):Mu->Option (Nat×AO)
 | .rows l _ all=>match(S.heap l).2 with
   | .rows mine k' rg _ _=>if k=k' then some (if all=true then(S.heap l).1 else(S.heap l).1+1, .rows mine k (rg+1) (hd0 m) (in0 m))else none
   |_=>none
 |_=>none
def muSet (S:St):(ps:List PK)->MTy ps->List Mu->(Nat->Nat×AO)->Nat->Nat×AO
 | [],_,_,H=>H
 | .mu k::ps,m,e::ls,H=>muSet S ps m.2 ls (fun t=>if t=e.ob then(putA S k m.1 e).getD (H t)else H t)
 | .mr k::ps,m,e::ls,H=>muSet S ps m.2 ls (fun t=>if t=e.ob then(putR S k m.1 e).getD (H t)else H t)
 | .mu _::_,_,[],H=>H
 | .mr _::_,_,[],H=>H
 | .ro _::ps,m,ls,H=>muSet S ps m ls H
 | .bo _::ps,m,ls,H=>muSet S ps m ls H
 | .pm _::ps,m,ls,H=>muSet S ps m ls H
 | .fn _::ps,m,ls,H=>muSet S ps m ls H
theorem up_put {S':St} {l g:Nat} {ob:AO} :(S'.up (.set l g ob)).heap=fun t=>if t=l then(g,ob)else S'.heap t:=by
 funext t;simp only[St.up,beq_iff]
 by_cases ht:t=l<;>simp [ht]
theorem backs_ups:∀ {ps:List PK} {m:MTy ps} {ls:List Mu} {ms:List Up},(backs ps m ls).ev S=some ms->∀S':St,S'.ups ms= {S' with heap:=muSet S ps m ls S'.heap}
 | [],m,ls,ms,h,S'=>by
  cases ls with
  |nil=>rw[<-ret_ev h];rfl
  |cons l ls=>exact(fail_ev h).elim
 | .ro _::ps,m,ls,ms,h,S'=>backs_ups (ps:=ps) (m:=m) (by cases ls<;>exact h) S'
 | .bo _::ps,m,ls,ms,h,S'=>backs_ups (ps:=ps) (m:=m) (by cases ls<;>exact h) S'
 | .pm _::ps,m,ls,ms,h,S'=>backs_ups (ps:=ps) (m:=m) (by cases ls<;>exact h) S'
 | .fn _::ps,m,ls,ms,h,S'=>backs_ups (ps:=ps) (m:=m) (by cases ls<;>exact h) S'
 | .mu k::ps,m,[],ms,h,S'=>(fail_ev h).elim
 | .mr k::ps,m,[],ms,h,S'=>(fail_ev h).elim
 | .mu k::ps,m, .rows _ _ _::ls,ms,h,S'=>(fail_ev h).elim
 | .mr k::ps,m, .arr _ _ _::ls,ms,h,S'=>(fail_ev h).elim
 | .mr k::ps,m, .row _ _ _ _::ls,ms,h,S'=>(fail_ev h).elim
 | .mu k::ps,m, .arr l off len::ls,ms,h,S'=>by
  simp only[backs,Cm.ev]at h;split at h
  case h_2=>exact(fail_ev h).elim
  rename_i mine fz k' full hob;split at h
  case isFalse=>exact(fail_ev h).elim
  rename_i hk;obtain⟨ms',h1,h2⟩:=bind_ev h;rw[<-ret_ev h2,ups_cons,backs_ups h1,up_put];simp only[muSet,putA,hob,hk,dif_pos,Option.getD_some,Mu.ob];rfl
 | .mu k::ps,m, .row l i off len::ls,ms,h,S'=>by
  simp only[backs,Cm.ev]at h;split at h
  case h_2=>exact(fail_ev h).elim
  rename_i mine k' rg hdr inn hob;split at h
  case isFalse=>exact(fail_ev h).elim
  rename_i hk;obtain⟨ms',h1,h2⟩:=bind_ev h;rw[<-ret_ev h2,ups_cons,backs_ups h1,up_put];simp only[muSet,putA,hob,hk,dif_pos,Option.getD_some,Mu.ob];rfl
 | .mr k::ps,m, .rows l len all::ls,ms,h,S'=>by
  simp only[backs,Cm.ev]at h;split at h
  case h_2=>exact(fail_ev h).elim
  rename_i mine k' rg hdr inn hob;split at h
  case isFalse=>exact(fail_ev h).elim
  rename_i hk;obtain⟨ms',h1,h2⟩:=bind_ev h;rw[<-ret_ev h2,ups_cons,backs_ups h1,up_put];simp only[muSet,putR,hob,hk,if_true,Option.getD_some,Mu.ob];rfl
theorem muSet_out:∀ {ps:List PK} {m:MTy ps} {ls:List Mu} {H:Nat->Nat×AO} {t:Nat},t∉ls.map Mu.ob->muSet S ps m ls H t=H t
 | [],_,_,_,_,_=>rfl
 | .ro _::ps,m,ls,H,t,h=>muSet_out (ps:=ps) (m:=m) h
 | .bo _::ps,m,ls,H,t,h=>muSet_out (ps:=ps) (m:=m) h
 | .pm _::ps,m,ls,H,t,h=>muSet_out (ps:=ps) (m:=m) h
 | .fn _::ps,m,ls,H,t,h=>muSet_out (ps:=ps) (m:=m) h
 | .mu _::_,_,[],_,_,_=>rfl
 | .mr _::_,_,[],_,_,_=>rfl
 | .mu k::ps,m,e::ls,H,t,h=>by
  simp at h;simp only[muSet];rw[muSet_out (by simpa using h.2),if_neg h.1]
 | .mr k::ps,m,e::ls,H,t,h=>by
  simp at h;simp only[muSet];rw[muSet_out (by simpa using h.2),if_neg h.1]
structure MuNew (E:En) (S:St) (α:Nat->CO) (w w':World) (M':Nat->Nat->Prop) (l:Nat) (ob:Nat×AO) (co:CO):Prop where
 fps:∀b o,fp ob.2 co b o->fp (S.heap l).2 (α l) b o
 mine:isMine ob.2=isMine (S.heap l).2
 frn:Frn co (α l)
 gen:(S.heap l).1<=ob.1
 shp:ob.1=(S.heap l).1->ShapeLe (S.heap l).2 (α l) ob.2 co
 or:∀(Mf Mb:Nat->Nat->Prop) (H':Nat->Nat×AO) (α':Nat->CO),(∀b o,Mf b o->M' b o)->Keeps w (MM E.M0 S.heap α) w' Mf->OR w' Mf Mb H' α' ob.2 co
theorem entA_new (h:Inv E S α a w) {k:Kd} {x:List k.Ty} {c:CO} {e:Mu} (he:EntA S α k x c e) {m:List k.Ty} {w':World} {M' W1:Nat->Nat->Prop}
  (hback:∃A cap real,c= .arr A cap real/\List.length m=cap/\∀b o,A=some (b,o)->(∀(q:Nat) (x:k.Ty),m[q]? =some x->∃es,RdC w' M' k es x/\Cells0 w' b (o+q*k.sz) es))
  (hreg:∀b o,W1 b o->fp (S.heap e.ob).2 (α e.ob) b o->fp (.arr false false k []) c b o) (hF:Fr W1 w w'):∃ob,putA S k m e=some ob/\MuNew E S α w w' M' e.ob ob (α e.ob):=by
 have hcellF:∀b oo v,w.cell? ⟨b,oo,none⟩=some v->¬W1 b oo->w'.cell? ⟨b,oo,none⟩=some v/\w'.frozen? ⟨b,oo,none⟩=w.frozen? ⟨b,oo,none⟩:=fun b oo v hcl hn=>⟨hF.cell hcl hn,hF.frozen hcl⟩
 obtain⟨A2,cap2,real2,b1,b2,b3⟩:=hback;cases e with
 |arr l off len=>
  obtain⟨mine,full,A,cap,real,m1,m2,m3,m4,rfl⟩:=he;rw[m2]at b1;simp only[shiftCO,CO.arr.injEq]at b1;obtain⟨c1,c2,c3⟩:=b1;subst c2;have hor:=h.obj l;rw[m1,m2]at hor;obtain⟨d1,d2,d3,d4,d5⟩:=hor;refine⟨((S.heap l).1, .arr mine false k (splice full m off)),by simp [putA,m1,castL_rfl],?_⟩;show MuNew E S α w w' M' l _ (α l);refine⟨fun b o hf=> ?_,by rw[m1];rfl,Frn.refl _,Nat.le_refl _,fun _=> ?_,fun Mf Mb H' α' hMf k1=> ?_⟩
  ·rw[m1];rw[m2]at hf ⊢;cases A<;>exact hf
  ·rw[m1,m2];exact⟨rfl,splice_length _ _ _ (by omega),rfl,rfl⟩
  ·rw[m2];refine⟨by rw[splice_length _ _ _ (by omega)];exact d1,d2,d3,d4,fun b oo hA=> ?_⟩;obtain⟨c6,c7⟩:=d5 b oo hA;have hout:∀i,fp (S.heap l).2 (α l) b i->¬(real - off≠0/\oo+off*k.sz<=i/\i<oo+off*k.sz+len*k.sz)->¬W1 b i:=by
    intro i hfi hni hw;have hf8:=hreg b i hw hfi;rw[m2]at hf8;obtain⟨o9,q1,q2,q3,q4,_⟩:=shift_fp (mine:=mine) (full:=full) (cap:=cap) (by omega) hf8;rw[hA]at q1;cases q1;exact hni ⟨q2,q3,q4⟩
   refine⟨fun q' x hx=> ?_,fun hz j' hj'=> ?_⟩
   ·rw[splice_get _ _ _ _ (by omega)]at hx;split at hx
    ·rename_i hr;have hne:real - off≠0:=by omega
     rw[if_neg hne,hA]at c1;obtain⟨es,f1,f2⟩:=b3 b (oo+off*k.sz) c1.symm (q' - off) x hx;refine⟨es,f1.mono (Keeps.less hMf),?_,fun hz=>by cases hz⟩;have:off*k.sz+(q' - off)*k.sz=q'*k.sz:=by rw[<-Nat.add_mul];congr 1;omega
     rwa [Nat.add_assoc,this]at f2
    ·rename_i hr;obtain⟨es,f1,f2,_⟩:=c6 q' x hx;refine⟨es,f1.mono k1,fun j' v hj'=> ?_,fun hz=>by cases hz⟩;have hjl:j'<k.sz:=by rw[<-f1.len];exact(List.getElem?_eq_some_iff.1 hj').1
     have hql:q'<full.length:=(List.getElem?_eq_some_iff.1 hx).1;have hcap:(q'+1)*k.sz<=cap*k.sz:=Nat.mul_le_mul_right _ (by omega);rw[Nat.add_mul,Nat.one_mul]at hcap;refine(hcellF b _ v (f2 j' v hj') (hout _ ?_ ?_)).1
     ·rw[m1,m2,hA];exact⟨rfl,by omega,by omega⟩
     ·rintro ⟨hne,w1,w2⟩
      by_cases hlt:q'<off
      ·have:(q'+1)*k.sz<=off*k.sz:=Nat.mul_le_mul_right _ (by omega);rw[Nat.add_mul,Nat.one_mul]at this;omega
      ·have:(off+len)*k.sz<=q'*k.sz:=Nat.mul_le_mul_right _ (by omega);rw[Nat.add_mul]at this;omega
   ·obtain⟨⟨v,s1⟩,s2⟩:=c7 hz j' hj';exact⟨hF.some s1,by rw[hF.frozen s1];exact s2⟩
 |row l q off len=>
  obtain⟨mine,rg,hdr,inn,A,cap,real,ms,mm,xs,m1,m2,m3,m4,m5,m6,rfl⟩:=he;obtain⟨A',cap',real',ms',hα,R⟩:=rows_co h m1;rw[m2]at hα;cases hα;simp only[shiftCO,CO.arr.injEq]at b1;obtain⟨c1,c2,c3⟩:=b1;subst c2;have hxs:inn.getD q []=xs:=by simp [m4]
  obtain⟨a1,a2,a3,a4⟩:=R.mem q xs mm m4 m3;have hmem:=List.mem_of_getElem? m3;have hql:=(List.getElem?_eq_some_iff.1 m4).1;have hspl:(splice xs m off).length=xs.length:=splice_length _ _ _ (by omega);refine⟨((S.heap l).1, .rows mine k rg hdr (inn.set q (splice xs m off))),by simp [putA,m1,castL_rfl,m4],?_⟩;show MuNew E S α w w' M' l _ (α l);have hW:∀b i,W1 b i->fp (S.heap l).2 (α l) b i->∃o',mm.1=some (b,o')/\o'+off*k.sz<=i/\i<o'+off*k.sz+len*k.sz:=by
   intro b i hw hfi;have hf8:=hreg b i hw hfi;obtain⟨o9,q1,q2,q3,q4,_⟩:=shift_fp (mine:=false) (full:=xs) (cap:=mm.2.1) (by omega) hf8;exact⟨o9,q1,q3,q4⟩
  have hmul:(off+len)*k.sz<=mm.2.1*k.sz:=Nat.mul_le_mul_right _ (by omega);rw[Nat.add_mul]at hmul;have hWs:∀b i,W1 b i->fp (S.heap l).2 (α l) b i->seg k mm b i:=by
   intro b i hw hfi;obtain⟨o',q1,q2,q3⟩:=hW b i hw hfi;exact⟨o',q1,by omega,by omega⟩
  have hseg:∀m∈ms,∀b i,seg k m b i->fp (S.heap l).2 (α l) b i:=fun m hm b i hs=>by
   rw[m1,m2];exact .inr ⟨m,hm,hs⟩
  have houtr:∀b i oo,A=some (b,oo)->oo<=i->i<oo+cap->¬W1 b i:=by
   intro b i oo hA w1 w2 hw;have hfi:fp (S.heap l).2 (α l) b i:=by
    rw[m1,m2];exact .inl ⟨oo,hA,w1,w2⟩
   exact R.dO mm hmem b i oo (hWs b i hw hfi) hA w1 w2
  refine⟨fun b o hf=> ?_,by rw[m1];rfl,Frn.refl _,Nat.le_refl _,fun _=> ?_,fun Mf Mb H' α' hMf k1=> ?_⟩
  ·rw[m1];rw[m2]at hf ⊢;exact hf
  ·rw[m1,m2];refine⟨⟨rfl,rfl,rfl,rfl⟩,Nat.le_refl _,fun _ i m' ys hm hy=>⟨hm,?_⟩⟩
   by_cases hq:i=q
   ·subst hq;rw[m4]at hy;cases hy;exact⟨_,List.getElem?_set_self hql,hspl⟩
   ·exact⟨ys,by rw[List.getElem?_set_ne (Ne.symm hq)];exact hy,rfl⟩
  ·rw[m2];refine⟨R.len,R.full,R.cr,R.mcap,R.non,by simpa using R.ml,R.hd,fun b oo hA=> ?_,fun i ys m' hy hm=> ?_,R.dj,R.dO⟩
   ·obtain⟨d1,d2⟩:=R.cel b oo hA;refine⟨fun i p m' hp hm=> ?_,fun j hj=> ?_⟩
    ·obtain⟨u,f1,f2⟩:=d1 i p m' hp hm;have hil:=(List.getElem?_eq_some_iff.1 hp).1;have:=R.len;exact⟨u,(hcellF b _ u f1 (houtr b _ oo hA (by omega) (by omega))).1,f2⟩
    ·obtain⟨⟨v,f1⟩,f2⟩:=d2 j hj;have:=hcellF b _ v f1 (houtr b _ oo hA (by omega) (by omega));exact⟨⟨v,this.1⟩,by rw[this.2];exact f2⟩
   ·by_cases hq:i=q
    ·subst hq;rw[List.getElem?_set_self hql]at hy;cases hy;rw[m3]at hm;cases hm;refine⟨by rw[hspl];exact a1,by rw[hspl];exact a2,a3,fun b oo hA=> ?_⟩;obtain⟨c6,c7⟩:=a4 b oo hA;refine⟨fun q' x hx=> ?_,fun j' hj'=> ?_⟩
     ·rw[splice_get _ _ _ _ (by omega)]at hx;split at hx
      ·rename_i hr;have hne:mm.2.2 - off≠0:=by omega
       rw[if_neg hne,hA]at c1;obtain⟨es,f1,f2⟩:=b3 b (oo+off*k.sz) c1.symm (q' - off) x hx;refine⟨es,f1.mono (Keeps.less hMf),?_⟩;have:off*k.sz+(q' - off)*k.sz=q'*k.sz:=by rw[<-Nat.add_mul];congr 1;omega
       rwa [Nat.add_assoc,this]at f2
      ·rename_i hr;obtain⟨es,f1,f2⟩:=c6 q' x hx;refine⟨es,f1.mono k1,fun j' v hj'=> ?_⟩;have hjl:j'<k.sz:=by rw[<-f1.len];exact(List.getElem?_eq_some_iff.1 hj').1
       have hql':q'<xs.length:=(List.getElem?_eq_some_iff.1 hx).1;have hcap:(q'+1)*k.sz<=mm.2.1*k.sz:=Nat.mul_le_mul_right _ (by omega);rw[Nat.add_mul,Nat.one_mul]at hcap;refine(hcellF b _ v (f2 j' v hj') (fun hw=> ?_)).1;obtain⟨o9,q1,w1,w2⟩:=hW b _ hw (hseg mm hmem b _ ⟨oo,hA,by omega,by omega⟩);rw[hA]at q1;cases q1
       by_cases hlt:q'<off
       ·have:(q'+1)*k.sz<=off*k.sz:=Nat.mul_le_mul_right _ (by omega);rw[Nat.add_mul,Nat.one_mul]at this;omega
       ·have:(off+len)*k.sz<=q'*k.sz:=Nat.mul_le_mul_right _ (by omega);rw[Nat.add_mul]at this;omega
     ·rw[hspl]at hj';obtain⟨⟨v,s1⟩,s2⟩:=c7 j' hj';exact⟨hF.some s1,by rw[hF.frozen s1];exact s2⟩
    ·rw[List.getElem?_set_ne (Ne.symm hq)]at hy;refine(R.mem i ys m' hy hm).mono k1 (fun b i' v hs hc=>hcellF b i' v hc (fun hw=> ?_));exact R.dj i q m' mm b i' hq hm m3 hs (hWs b i' hw (hseg m' (List.mem_of_getElem? hm) b i' hs))
 |rows l len all=>exact he.elim
theorem entR_new (h:Inv E S α a w) {k:Kd} {x:List (List k.Ty×Nat)} {c:CO} {e:Mu} (he:EntR S α k x c e) {m:List (List k.Ty×Nat)} {w':World} {M' W1:Nat->Nat->Prop}
  (hback:∃A cap real ms ms',c= .rows A cap real ms/\(∀q∈ms',q∈ms)/\RowsOk w' M' false k (hd0 m) (in0 m) A cap real ms') (hF:Fr W1 w w'):∃ob co,putR S k m e=some ob/\MuNew E S α w w' M' e.ob ob co:=by
 obtain⟨A2,cap2,real2,ms2,ms',b1,b2,B⟩:=hback;cases e with
 |rows l len all=>
  obtain⟨mine,rg,hdr,inn,A,cap,real,ms,m1,m2,m3,m4,m5,m6,m7,rfl⟩:=he;simp only[CO.rows.injEq]at b1;obtain⟨e1,e2,e3,e4⟩:=b1;subst e1 e2 e3 e4;obtain⟨A',cap',real',ms1,hα,R⟩:=rows_co h m1;rw[m2]at hα;cases hα;have hv:=rows_view R m3 m6 false len (Nat.le_refl _) (Nat.le_trans m3 R.len) (fun _=>rfl) (fun h=>by cases h) (fun b o hm=>hm);have hsub:∀q∈ms',q∈ms:=fun q hq=>hv.2 q (b2 q hq)
  have hml:(hd0 m).length=len:=B.full rfl;refine⟨(if all=true then(S.heap l).1 else(S.heap l).1+1, .rows mine k (rg+1) (hd0 m) (in0 m)), .rows A cap real ms',by simp [putR,m1],?_⟩;show MuNew E S α w w' M' l _ _;refine⟨fun b o hf=> ?_,by rw[m1];rfl,by rw[m2];exact⟨ms,rfl,hsub⟩,?_,fun hg=> ?_,fun Mf Mb H' α' hMf k1=> ?_⟩
  ·rw[m1,m2];rcases hf with hf|⟨q,hq,hs⟩
   ·exact .inl hf
   ·exact .inr ⟨q,hsub q hq,hs⟩
  ·show _<=(if all=true then _ else _)
   split<;>omega
  ·have hall:all=true:=by
    by_cases ha:all=true
    ·exact ha
    ·have hg':(if all=true then(S.heap l).1 else(S.heap l).1+1)=(S.heap l).1:=hg;rw[if_neg ha]at hg';omega
   rw[m1,m2];exact⟨⟨rfl,by rw[hml];exact m4 hall,rfl,rfl⟩,Nat.le_succ _,fun he=>by omega⟩
  ·have hlen:=R.len;refine⟨by rw[hml];omega,fun hm=> ?_,R.cr,R.mcap,R.non,B.ml,B.hd,fun b o hA=> ?_,fun j xs q hx hq=>(B.mem j xs q hx hq).mono (Keeps.less hMf) (fun b i v _ hc=>⟨hc,rfl⟩),B.dj,fun q hq b o oo hs hA w1 w2=>R.dO q (hsub q hq) b o oo hs hA w1 w2⟩
   ·rw[hml,m4 (m5 hm)];exact R.full hm
   ·refine⟨(B.cel b o hA).1,fun j hj=> ?_⟩;obtain⟨⟨v,s1⟩,s2⟩:=(R.cel b o hA).2 j hj;exact⟨hF.some s1,by rw[hF.frozen s1];exact s2⟩
 |_=>exact he.elim
theorem muSet_in (h:Inv E S α a w) {γ:Nat->CO} {w':World} {M' W1:Nat->Nat->Prop} (hF:Fr W1 w w'):∀ {ps:List PK} {i:Nat} {x:PTy ps} {m:MTy ps} {ls:List Mu} {H:Nat->Nat×AO},MuOk S α γ i ps x ls->MuBack w' M' γ i ps m->dup (ls.map Mu.ob)=false->
  (∀b o,W1 b o->(∃j,muFp γ i ps j b o)\/∀t∈ls.map Mu.ob,¬fp (S.heap t).2 (α t) b o)->
  ∃δ:Nat->CO,(∀t,t∉ls.map Mu.ob->δ t=α t)/\∀t∈ls.map Mu.ob,MuNew E S α w w' M' t (muSet S ps m ls H t) (δ t)
 | [],i,x,m,ls,H,hm,_,_,_=>by
  have:ls=[]:=hm;subst this;exact⟨α,fun _ _=>rfl,fun t ht=>by simp at ht⟩
 | .ro _::ps,i,x,m,ls,H,hm,hb,hd,hW=>muSet_in h hF (ps:=ps) (x:=x.2) (m:=m) hm hb hd hW
 | .bo _::ps,i,x,m,ls,H,hm,hb,hd,hW=>muSet_in h hF (ps:=ps) (x:=x.2) (m:=m) hm hb hd hW
 | .pm _::ps,i,x,m,ls,H,hm,hb,hd,hW=>muSet_in h hF (ps:=ps) (x:=x.2) (m:=m) hm hb hd hW
 | .fn _::ps,i,x,m,ls,H,hm,hb,hd,hW=>muSet_in h hF (ps:=ps) (x:=x.2) (m:=m) hm hb hd hW
 | .mu k::ps,i,x,m,ls,H,hm,hb,hd,hW=>by
  obtain⟨e,ls',rfl,he,hm'⟩:=hm;obtain⟨hb1,hb'⟩:=hb;obtain⟨d1,d2⟩:=dup_not hd;have hreg:∀b o,W1 b o->fp (S.heap e.ob).2 (α e.ob) b o->fp (.arr false false k []) (γ i) b o:=by
   intro b o hw hf;rcases hW b o hw with ⟨j,hj⟩|hn
   ·rcases hj with ⟨_,hj⟩|hj
    ·exact hj
    ·obtain⟨q1,q2⟩:=muFp_obj h hm' hj;exact(h.dsj (muObj (i+1) ps ls' j) e.ob b o (fun e'=>d1 (e'▸q2)) q1 hf).elim
   ·exact(hn e.ob (by simp) hf).elim
  obtain⟨ob,p1,p2⟩:=entA_new h he hb1 hreg hF;obtain⟨δ,q1,q2⟩:=muSet_in h hF (H:=fun t=>if t=e.ob then(putA S k m.1 e).getD (H t)else H t) hm' hb' d2 (fun b o hw=>by
   rcases hW b o hw with ⟨j,hj⟩|hn
   ·rcases hj with ⟨_,hj⟩|hj
    ·refine .inr (fun t ht hf=> ?_);exact h.dsj t e.ob b o (fun e'=>d1 (e'▸ht)) hf (entA_fp h he hj)
    ·exact .inl ⟨j,hj⟩
   ·exact .inr (fun t ht=>hn t (by simp at ht ⊢;exact .inr ht)))
  refine⟨δ,fun t ht=> ?_,fun t ht=> ?_⟩
  ·simp at ht;exact q1 t (by simpa using ht.2)
  ·by_cases hte:t=e.ob
   ·subst hte;rw[q1 _ d1];simp only[muSet];rw[muSet_out d1];simp only[if_true,p1,Option.getD_some];exact p2
   ·simp at ht;exact q2 t (by simpa using ht.resolve_left hte)
 | .mr k::ps,i,x,m,ls,H,hm,hb,hd,hW=>by
  obtain⟨e,ls',rfl,he,hm'⟩:=hm;obtain⟨hb1,hb'⟩:=hb;obtain⟨d1,d2⟩:=dup_not hd;obtain⟨ob,co,p1,p2⟩:=entR_new h he hb1 hF;obtain⟨δ,q1,q2⟩:=muSet_in h hF (H:=fun t=>if t=e.ob then(putR S k m.1 e).getD (H t)else H t) hm' hb' d2 (fun b o hw=>by
   rcases hW b o hw with ⟨j,hj⟩|hn
   ·rcases hj with ⟨_,hj⟩|hj
    ·refine .inr (fun t ht hf=> ?_);exact h.dsj t e.ob b o (fun e'=>d1 (e'▸ht)) hf (entR_fp h he hj)
    ·exact .inl ⟨j,hj⟩
   ·exact .inr (fun t ht=>hn t (by simp at ht ⊢;exact .inr ht)))
  refine⟨fun t=>if t=e.ob then co else δ t,fun t ht=> ?_,fun t ht=> ?_⟩
  ·simp at ht;simp only[ht.1,if_false];exact q1 t (by simpa using ht.2)
  ·by_cases hte:t=e.ob
   ·subst hte;simp only[if_true,muSet];rw[muSet_out d1];simp only[if_true,p1,Option.getD_some];exact p2
   ·simp at ht;simp only[hte,if_false];exact q2 t (by simpa using ht.resolve_left hte)
end
end Go.Cm
