import Derived.Test.YtdpljomfkoojnaaGreatDoorCmZC
set_option linter.unusedVariables false
namespace Go.Cm
section
variable {cx:Cx} {E:En} {S:St} {α:Nat->CO} {a:Act} {w:World}
theorem dup_append:∀ {xs ys:List Nat},dup (xs++ys)=false->dup xs=false/\dup ys=false/\∀x∈xs,x∉ys
 | [],ys,h=>⟨rfl,h,fun _ hx=>by simp at hx⟩
 |x::xs,ys,h=>by
  obtain⟨h1,h2⟩:=dup_not (by simpa using h);obtain⟨g1,g2,g3⟩:=dup_append h2;simp only[List.mem_append,not_or]at h1;refine⟨?_,g2,fun y hy=> ?_⟩
  ·simp only[dup,Bool.or_eq_false_iff];refine⟨List.any_eq_false.2 fun z hz=> ?_,g1⟩;rw[beq_iff];have:¬z=x:=fun e=>h1.1 (e▸hz)
   have h':¬x=z:=fun e=>this e.symm
   simp [h']
  ·simp only[List.mem_cons]at hy;rcases hy with hy|hy
   ·rw[hy];exact h1.2
   ·exact g3 y hy
structure OkU (E:En) (S:St) (α:Nat->CO) (U:Nat->Nat->Prop) (used:List Nat):Prop where
 sub:∀b o,U b o->MM E.M0 S.heap α b o
 av:∀l∈used,∀b o,U b o->¬fp (S.heap l).2 (α l) b o
theorem OkU.less {U:Nat->Nat->Prop} {used used':List Nat} (h:OkU E S α U used) (hs:∀l∈used',l∈used):OkU E S α U used':=⟨h.sub,fun l hl=>h.av l (hs l hl)⟩
theorem oa_of (h:Inv E S α a w) {l:Nat} {k:Kd} {full:List k.Ty} (ho:(S.heap l).2= .arr true false k full) {U:Nat->Nat->Prop} (hU:∀b o,U b o->MM E.M0 S.heap α b o):OA w U (.arr true false k full) (α l):=by
 have hor:=h.obj l;obtain⟨A,cap,real,hα⟩:=arr_co h ho;rw[ho,hα]at hor;rw[hα];obtain⟨c1,c2,c3,c4,c5⟩:=hor;refine⟨c1,c2,c3,c4,fun b o hA=> ?_⟩;obtain⟨c6,c7⟩:=c5 b o hA;refine⟨fun i x hx=> ?_,c7⟩;obtain⟨es,e1,e2,_⟩:=c6 i x hx;exact⟨es,e1.mono (Keeps.less hU),e2,fun hz=>by cases hz⟩
structure FinB (E:En) (S:St) (α:Nat->CO) (J own used:List Nat) (β:Nat->AO×CO):Prop where
 ow:∀i b o,fp (β i).1 (β i).2 b o->i∈J/\∃l∈own,fp (S.heap l).2 (α l) b o
 dsj:∀i i' b o,i≠i'->fp (β i).1 (β i).2 b o->fp (β i').1 (β i').2 b o->False
 mine:∀l,l∈own\/l∈used->isMine (S.heap l).2=true
def AlOk (S:St) (α:Nat->CO) (us0:List Value):Prop:=∀(i:Nat) (k:Kd) (full:List k.Ty) (A:Option (Nat×Nat)) (cap real:Nat) (u:Value),(S.heap (8*i)).2= .arr false false k full->α (8*i)= .arr A cap real->SlAt A 0 full.length real u->
  ∃u0,us0[i]? =some u0/\∀A d len c,SlAt A d len c u0->SlAt A d len c u
theorem finC_sound (h:Inv E S α a w) {us0:List Value} (hal:AlOk S α us0) {r:RC} {j:Nat} {cs:List A0} {us:List Value} {p:Fi r.Ty} (hp:(finC r cs).ev S=some p) (hv:Al (R0 E S.heap α w) cs us):
  ∃us1 us2 β1,us=us1++us2/\us1.length=r.sz/\Al (R0 E S.heap α w) p.rest us2/\FinB E S α (ownS j [r]) p.own p.used (fun i=>if i=j then β1 else(.no, .no))/\
   ∀U β,OkU E S α U p.used->β j=β1->ResC w U β us0 j r p.x us1:=by
 have hno:∀b o,¬fp AO.no CO.no b o:=fun b o hf=>hf
 cases r with
 |ro k=>
  simp only[finC]at hp;obtain⟨p1,h1,h2⟩:=bind_ev hp;have:=ret_ev h2;subst this;obtain⟨⟨u1,u2,r1,r2,r3,r4⟩,r5,r6⟩:=pack_sound h k false _ _ p1 h1 hv;refine⟨u1,u2,(.no, .no),r1,r2,r3,⟨fun i b o hf=> ?_,fun i i' b o _ hf=> ?_,fun l hl=> ?_⟩,fun U β hU _=> ?_⟩
  ·split at hf<;>exact(hno _ _ hf).elim
  ·split at hf<;>exact(hno _ _ hf).elim
  ·rcases hl with hl|hl
   ·simp at hl
   ·simp only[r6 rfl,List.append_nil]at hl;obtain⟨k,full,hq⟩:=r5 l hl;rw[hq];rfl
  ·exact r4 U hU.sub (fun l hl=>hU.av l (by simp only[List.mem_append];exact hl))
 |own k=>
  cases cs with
  |nil=>exact(fail_ev hp).elim
  |cons c cs=>
   cases hv with
   | @cons _ u _ us' hv0 hv1=>
    cases c<;>try exact(fail_ev hp).elim
    case v x=>
     cases x<;>try exact(fail_ev hp).elim
     rename_i A len cap;cases A with
     |some A=>exact(fail_ev hp).elim
     |none=>
      match len,cap with
      |0,0=>
       have:=ret_ev hp;subst this;refine⟨[u],us',(.arr true false k [], .arr none 0 0),rfl,rfl,hv1,⟨fun i b o hf=> ?_,fun i i' b o _ hf=> ?_,fun l hl=>by simp at hl⟩,fun U β hU hβ=> ?_⟩
       ·split at hf<;>exact hf.elim
       ·split at hf<;>exact hf.elim
       ·refine⟨u,none,0,0,rfl,hβ,?_,?_⟩
        ·rw[hβ];exact⟨⟨Nat.le_refl _,fun _=>rfl⟩,Nat.le_refl _,fun _=>rfl,fun _=>rfl,fun b o hA=>by cases hA⟩
        ·rw[show u=_ from hv0];exact⟨none,rfl,Nat.le_refl _,fun h0=>by omega⟩
      |0,_+1=>exact(fail_ev hp).elim
      |_+1,_=>exact(fail_ev hp).elim
    case ref l g vw=>
     cases vw with
     |some _=>exact(fail_ev hp).elim
     |none=>
      simp only[finC,Cm.ev]at hp;split at hp
      case isFalse=>exact(fail_ev hp).elim
      rename_i hg;split at hp
      case h_2=>exact(fail_ev hp).elim
      rename_i k' full hob;split at hp
      case isFalse=>exact(fail_ev hp).elim
      rename_i hk;subst hk;have:=ret_ev hp;subst this;simp only[castL_rfl];have hr:=hv0.1.2 hg;obtain⟨A,cap,real,hα⟩:=arr_co h hob;rw[hob,hα]at hr;obtain⟨g1,g2⟩:=hr;refine⟨[u],us',(.arr true false k' full,α l),rfl,rfl,hv1,⟨fun i b o hf=> ?_,fun i i' b o hne hf hf'=> ?_,fun l' hl=> ?_⟩,fun U β hU hβ=> ?_⟩
      ·split at hf
       ·rename_i hi;exact⟨by simp [ownS,hi],l,by simp,by rw[hob];exact hf⟩
       ·exact hf.elim
      ·split at hf
       ·split at hf'
        ·omega
        ·exact hf'.elim
       ·exact hf.elim
      ·simp at hl;subst hl;rw[hob];rfl
      ·refine⟨u,A,cap,real,rfl,by rw[hβ,hα],?_,?_⟩
       ·rw[hβ];exact oa_of h hob hU.sub
       ·simpa [voff,vlen]using g2
 |ov k=>
  cases cs with
  |nil=>exact(fail_ev hp).elim
  |cons c cs=>
   cases hv with
   | @cons _ u _ us' hv0 hv1=>
    cases c<;>try exact(fail_ev hp).elim
    case v x=>
     cases x<;>try exact(fail_ev hp).elim
     rename_i A len cap;cases A with
     |some A=>exact(fail_ev hp).elim
     |none=>
      match len,cap with
      |0,0=>
       have:=ret_ev hp;subst this;refine⟨[u],us',(.arr true false k [], .arr none 0 0),rfl,rfl,hv1,⟨fun i b o hf=> ?_,fun i i' b o _ hf=> ?_,fun l hl=>by simp at hl⟩,fun U β hU hβ=> ?_⟩
       ·split at hf<;>exact hf.elim
       ·split at hf<;>exact hf.elim
       ·refine⟨u,none,0,0,rfl,hβ,?_,Nat.le_refl _,?_⟩
        ·rw[hβ];exact⟨⟨Nat.le_refl _,fun _=>rfl⟩,Nat.le_refl _,fun _=>rfl,fun _=>rfl,fun b o hA=>by cases hA⟩
        ·rw[show u=_ from hv0];exact⟨none,rfl,Nat.le_refl _,fun h0=>by omega⟩
      |0,_+1=>exact(fail_ev hp).elim
      |_+1,_=>exact(fail_ev hp).elim
    case ref l g vw=>
      simp only[finC,Cm.ev]at hp;split at hp
      case isFalse=>exact(fail_ev hp).elim
      rename_i hg;split at hp
      case h_2=>exact(fail_ev hp).elim
      rename_i k' full hob;split at hp
      case isFalse=>exact(fail_ev hp).elim
      rename_i hk;subst hk;split at hp
      case isFalse=>exact(fail_ev hp).elim
      rename_i hvo;have:=ret_ev hp;subst this;simp only[castL_rfl];have hr:=hv0.1.2 hg;obtain⟨A,cap,real,hα⟩:=arr_co h hob;rw[hob,hα]at hr;obtain⟨g1,g2⟩:=hr;rw[hvo]at g1 g2;refine⟨[u],us',(.arr true false k' full,α l),rfl,rfl,hv1,⟨fun i b o hf=> ?_,fun i i' b o hne hf hf'=> ?_,fun l' hl=> ?_⟩,fun U β hU hβ=> ?_⟩
      ·split at hf
       ·rename_i hi;exact⟨by simp [ownS,hi],l,by simp,by rw[hob];exact hf⟩
       ·exact hf.elim
      ·split at hf
       ·split at hf'
        ·omega
        ·exact hf'.elim
       ·exact hf.elim
      ·simp at hl;subst hl;rw[hob];rfl
      ·refine⟨u,A,cap,real,rfl,by rw[hβ,hα],?_,by show vlen full vw<=full.length;omega,?_⟩
       ·rw[hβ];exact oa_of h hob hU.sub
       ·show SlAt A 0 (vlen full vw) real u;simpa using g2
 |rows k=>
  cases cs with
  |nil=>exact(fail_ev hp).elim
  |cons c cs=>
   cases hv with
   | @cons _ u _ us' hv0 hv1=>
    cases c<;>try exact(fail_ev hp).elim
    case v x=>
     cases x<;>try exact(fail_ev hp).elim
     rename_i A len cap;cases A with
     |some A=>exact(fail_ev hp).elim
     |none=>
      match len,cap with
      |0,0=>
       have:=ret_ev hp;subst this;refine⟨[u],us',(ao0 true k [], .rows none 0 0 []),rfl,rfl,hv1,⟨fun i b o hf=> ?_,fun i i' b o _ hf=> ?_,fun l hl=>by simp at hl⟩,fun U β hU hβ=> ?_⟩
       ·split at hf
        ·exact(no_rows hf).elim
        ·exact hf.elim
       ·split at hf
        ·exact(no_rows hf).elim
        ·exact hf.elim
       ·refine⟨u,none,0,0,[],rfl,hβ,?_,Nat.le_refl _,?_⟩
        ·rw[hβ];exact rows_nil _ _ _
        ·rw[show u=_ from hv0];exact⟨none,rfl,Nat.le_refl _,fun h0=>by omega⟩
      |0,_+1=>exact(fail_ev hp).elim
      |_+1,_=>exact(fail_ev hp).elim
    case ref l g vw=>
      simp only[finC,Cm.ev]at hp;split at hp
      case isFalse=>exact(fail_ev hp).elim
      rename_i hg;split at hp
      case h_2=>exact(fail_ev hp).elim
      rename_i k' rg hdr inn hob;split at hp
      case isFalse=>exact(fail_ev hp).elim
      rename_i hk;subst hk;split at hp
      case isFalse=>exact(fail_ev hp).elim
      rename_i hvo;simp only[Cm.ev]at hp;split at hp
      ·cases hp
      rename_i hdup;have hdup:dup (hdr.map fun p=>p.1)=false:=by simpa using hdup
      have:=ret_ev (show(Cm.ret _).ev S=some p from hp);subst this;simp only[castL_rfl];have hr:=hv0.1.2 hg;obtain⟨A,cap,real,ms,hα,R⟩:=rows_co h hob;rw[hob,hα]at hr;obtain⟨g1,g2⟩:=hr;rw[hvo]at g1 g2;have hview:=fun(M':Nat->Nat->Prop) (hM':∀b o,M' b o->MM E.M0 S.heap α b o)=>rows_view R (len:=hdr.length) (Nat.le_refl _) (by rw[List.take_length];exact hdup) true cap R.len (Nat.le_refl _) (fun h=>by cases h) R.mcap (M':=M') hM'
      rw[List.take_length]at hview;have hnl:(nrm hdr inn).length=hdr.length:=nrm_length _ _;refine⟨[u],us',(ao0 true k' (nrm hdr inn), .rows A cap real (viewMs hdr ms hdr.length)),rfl,rfl,hv1,⟨fun i b o hf=> ?_,fun i i' b o hne hf hf'=> ?_,fun l' hl=> ?_⟩,fun U β hU hβ=> ?_⟩
      ·split at hf
       ·rename_i hi;refine⟨by simp [ownS,hi],l,by simp,?_⟩;rw[hob,hα];rcases hf with hf|⟨m,hm,hs⟩
        ·exact .inl hf
        ·exact .inr ⟨m,(hview _ (fun _ _ h=>h)).2 m hm,hs⟩
       ·exact hf.elim
      ·split at hf
       ·split at hf'
        ·omega
        ·exact hf'.elim
       ·exact hf.elim
      ·simp at hl;subst hl;rw[hob];rfl
      ·refine⟨u,A,cap,real,_,rfl,hβ,?_,by show vlen hdr vw<=(nrm hdr inn).length;omega,?_⟩
       ·rw[hβ];exact(hview U hU.sub).1
       ·show SlAt A 0 (vlen hdr vw) real u;simpa using g2
 |al i k=>
  cases cs with
  |nil=>exact(fail_ev hp).elim
  |cons c cs=>
   cases hv with
   | @cons _ u _ us' hv0 hv1=>
    cases c<;>try exact(fail_ev hp).elim
    case ref l g vw=>
     cases vw with
     |some _=>exact(fail_ev hp).elim
     |none=>
      simp only[finC]at hp;split at hp
      case isFalse=>exact(fail_ev hp).elim
      rename_i hl;subst hl;simp only[Cm.ev]at hp;split at hp
      case isFalse=>exact(fail_ev hp).elim
      rename_i hg;split at hp
      case h_2=>exact(fail_ev hp).elim
      rename_i k' full hob;split at hp
      case isFalse=>exact(fail_ev hp).elim
      have:=ret_ev hp;subst this;have hr:=hv0.1.2 hg;obtain⟨A,cap,real,hα⟩:=arr_co h hob;rw[hob,hα]at hr;obtain⟨g1,g2⟩:=hr;refine⟨[u],us',(.no, .no),rfl,rfl,hv1,⟨fun i b o hf=> ?_,fun i i' b o hne hf hf'=> ?_,fun l' hl=>by simp at hl⟩,fun U β hU hβ=> ?_⟩
      ·split at hf<;>exact hf.elim
      ·split at hf<;>exact hf.elim
      ·obtain⟨u0,h1,h2⟩:=hal i k' full A cap real u hob hα (by simpa [voff,vlen]using g2);exact⟨u,u0,rfl,h1,hv0.2,h2⟩
theorem FinB.join (h:Inv E S α a w) {J1 J2 own1 own2 used1 used2:List Nat} {β1 β2:Nat->AO×CO} (f1:FinB E S α J1 own1 used1 β1) (f2:FinB E S α J2 own2 used2 β2) {n:Nat} (hn1:∀i∈J1,i<n) (hn2:∀i∈J2,n<=i) (hd:∀l∈own1,l∉own2):
  FinB E S α (J1++J2) (own1++own2) (used1++used2) (fun i=>if i<n then β1 i else β2 i):=by
 refine⟨fun i b o hf=> ?_,fun i i' b o hne hf hf'=> ?_,fun l hl=> ?_⟩
 ·split at hf
  ·obtain⟨h1,l,h2,h3⟩:=f1.ow i b o hf;exact⟨by simp [h1],l,by simp [h2],h3⟩
  ·obtain⟨h1,l,h2,h3⟩:=f2.ow i b o hf;exact⟨by simp [h1],l,by simp [h2],h3⟩
 ·split at hf<;>split at hf'
  ·exact f1.dsj i i' b o hne hf hf'
  ·obtain⟨_,l,h2,h3⟩:=f1.ow i b o hf;obtain⟨_,l',h2',h3'⟩:=f2.ow i' b o hf';exact h.dsj l l' b o (fun e=>hd l h2 (e▸h2')) h3 h3'
  ·obtain⟨_,l,h2,h3⟩:=f2.ow i b o hf;obtain⟨_,l',h2',h3'⟩:=f1.ow i' b o hf';exact h.dsj l' l b o (fun e=>hd l' h2' (e▸h2)) h3' h3
  ·exact f2.dsj i i' b o hne hf hf'
 ·simp only[List.mem_append]at hl;rcases hl with (hl|hl)|(hl|hl)
  ·exact f1.mine l (.inl hl)
  ·exact f2.mine l (.inl hl)
  ·exact f1.mine l (.inr hl)
  ·exact f2.mine l (.inr hl)
theorem ownS_lt:∀ {rs:List RC} {j i:Nat},i∈ownS j rs->j<=i/\i<j+rs.length
 | [],j,i,h=>by simp [ownS]at h
 | .ro k::rs,j,i,h=>by have:=ownS_lt (rs:=rs) h;simp only[List.length_cons];omega
 | .own k::rs,j,i,h=>by
  simp only[ownS,List.mem_cons]at h;rcases h with h|h
  ·simp only[List.length_cons];omega
  ·have:=ownS_lt (rs:=rs) h;simp only[List.length_cons];omega
 | .ov k::rs,j,i,h=>by
  simp only[ownS,List.mem_cons]at h;rcases h with h|h
  ·simp only[List.length_cons];omega
  ·have:=ownS_lt (rs:=rs) h;simp only[List.length_cons];omega
 | .rows k::rs,j,i,h=>by
  simp only[ownS,List.mem_cons]at h;rcases h with h|h
  ·simp only[List.length_cons];omega
  ·have:=ownS_lt (rs:=rs) h;simp only[List.length_cons];omega
 | .al q k::rs,j,i,h=>by have:=ownS_lt (rs:=rs) h;simp only[List.length_cons];omega
theorem finS_sound (h:Inv E S α a w) {us0:List Value} (hal:AlOk S α us0):∀ {rs:List RC} {j:Nat} {cs:List A0} {us:List Value} {p:Fi (RsTy rs)},(finS rs cs).ev S=some p->Al (R0 E S.heap α w) cs us->dup p.own=false->
  ∃us1 us2 β0,us=us1++us2/\Al (R0 E S.heap α w) p.rest us2/\FinB E S α (ownS j rs) p.own p.used β0/\
   ∀U β,OkU E S α U p.used->(∀i,j<=i->i<j+rs.length->β i=β0 i)->ResS w U β us0 j rs p.x us1
 | [],j,cs,us,p,hp,hv,hd=>by
  have:=ret_ev hp;subst this;exact⟨[],us,fun _=>(.no, .no),rfl,hv,⟨fun i b o hf=>hf.elim,fun i i' b o _ hf=>hf.elim,fun l hl=>by simp at hl⟩,fun U β _ _=>rfl⟩
 | [r],j,cs,us,p,hp,hv,hd=>by
  obtain⟨us1,us2,β1,h1,h2,h3,h4,h5⟩:=finC_sound h hal (j:=j) hp hv;exact⟨us1,us2,_,h1,h3,h4,fun U β hU hβ=>h5 U β hU (by rw[hβ j (Nat.le_refl _) (by simp)];simp)⟩
 |r::s::t,j,cs,us,p,hp,hv,hd=>by
  simp only[finS]at hp;obtain⟨p1,e1,e2⟩:=bind_ev hp;obtain⟨p2,e3,e4⟩:=bind_ev e2;have:=ret_ev e4;subst this;obtain⟨d1,d2,d3⟩:=dup_append hd;obtain⟨us1,us2,β1,h1,h2,h3,h4,h5⟩:=finC_sound h hal (j:=j) e1 hv;obtain⟨vs1,vs2,β2,k1,k2,k3,k4⟩:=finS_sound h hal (j:=j+1) e3 h3 d2;have hJ:ownS j (r::s::t)=ownS j [r]++ownS (j+1) (s::t):=by
   have:=ownS_append [r] (s::t) j;simpa using this
  refine⟨us1++vs1,vs2,_,by rw[h1,k1,List.append_assoc],k2,by rw[hJ];exact FinB.join h h4 k3 (n:=j+1) (fun i hi=>by have:=ownS_lt hi;simp at this;omega) (fun i hi=>by have:=ownS_lt hi;omega) d3,fun U β hU hβ=> ?_⟩;refine⟨us1,vs1,rfl,h5 U β (hU.less (fun l hl=>by simp [hl])) ?_,k4 U β (hU.less (fun l hl=>by simp [hl])) (fun i hi1 hi2=> ?_)⟩
  ·rw[hβ j (Nat.le_refl _) (by simp)];simp
  ·rw[hβ i (by omega) (by simp only[List.length_cons]at hi2 ⊢;omega)];rw[if_neg (by omega)]
theorem ownR_lt:∀ {rs:List RK} {j i:Nat},i∈ownR j rs->j<=i
 | [],j,i,h=>by simp [ownR]at h
 |r::rs,j,i,h=>by
  simp only[ownR,List.mem_append]at h;rcases h with h|h
  ·exact(ownS_lt h).1
  ·have:=ownR_lt h;omega
theorem finR_sound (h:Inv E S α a w) {us0:List Value} (hal:AlOk S α us0):∀ {rs:List RK} {j:Nat} {vs:List AV} {us:List Value} {p:Fi (RkTy rs)},(finR rs vs).ev S=some p->Al (VR (R0 E S.heap α w)) vs us->dup p.own=false->
  ∃β0,FinB E S α (ownR j rs) p.own p.used β0/\∀U β,OkU E S α U p.used->(∀i,j<=i->β i=β0 i)->ResR w U β us0 j rs p.x us
 | [],j,vs,us,p,hp,hv,hd=>by
  cases vs with
  |cons v vs=>exact(fail_ev hp).elim
  |nil=>
   have:=ret_ev hp;subst this;cases hv;exact⟨fun _=>(.no, .no),⟨fun i b o hf=>hf.elim,fun i i' b o _ hf=>hf.elim,fun l hl=>by simp at hl⟩,fun U β _ _=>rfl⟩
 | [r],j,vs,us,p,hp,hv,hd=>by
  match vs with
  | []=>exact(fail_ev hp).elim
  | [.tup _]=>exact(fail_ev hp).elim
  |_::_::_=>rename_i v1 v2 v3;cases v1<;>exact(fail_ev hp).elim
  | [.one ag cs]=>
   cases hv with
   | @cons _ u _ us' hv0 hv1=>
    cases hv1;simp only[finR]at hp;split at hp
    case isFalse=>exact(fail_ev hp).elim
    rename_i hag;subst hag;obtain⟨p1,e1,e2⟩:=bind_ev hp;split at e2
    case h_2=>exact(fail_ev e2).elim
    rename_i hrest;have:=ret_ev e2;subst this;obtain⟨ws,w1,w2,w3⟩:=hv0;obtain⟨us1,us2,β0,h1,h2,h3,h4⟩:=finS_sound h hal (j:=j) e1 w2 hd;rw[hrest]at h2;cases h2;rw[List.append_nil]at h1;subst h1;refine⟨β0,by simpa [ownR]using h3,fun U β hU hβ=>⟨ws,by rw[w1],fun hr=>by rw[<-w2.length];exact w3 hr,h4 U β hU (fun i hi _=>hβ i hi)⟩⟩
 |r::s::t,j,vs,us,p,hp,hv,hd=>by
  match vs with
  | []=>exact(fail_ev hp).elim
  | .tup _::_=>exact(fail_ev hp).elim
  | .one ag cs::vs=>
   cases hv with
   | @cons _ u _ us' hv0 hv1=>
    simp only[finR]at hp;split at hp
    case isFalse=>exact(fail_ev hp).elim
    rename_i hag;subst hag;obtain⟨p1,e1,e2⟩:=bind_ev hp;split at e2
    case h_2=>exact(fail_ev e2).elim
    rename_i hrest;obtain⟨p2,e3,e4⟩:=bind_ev e2;have:=ret_ev e4;subst this;obtain⟨d1,d2,d3⟩:=dup_append hd;obtain⟨ws,w1,w2,w3⟩:=hv0;obtain⟨us1,us2,β1,h1,h2,h3,h4⟩:=finS_sound h hal (j:=j) e1 w2 d1;rw[hrest]at h2;cases h2;rw[List.append_nil]at h1;subst h1;obtain⟨β2,k1,k2⟩:=finR_sound h hal (j:=j+r.2.length) e3 hv1 d2;refine⟨_,FinB.join h h3 k1 (n:=j+r.2.length) (fun i hi=>(ownS_lt hi).2) (fun i hi=>ownR_lt hi) d3,fun U β hU hβ=>⟨ws,us',by rw[w1],fun hr=>by rw[<-w2.length];exact w3 hr,h4 U β (hU.less (fun l hl=>by simp [hl])) (fun i hi1 hi2=> ?_),k2 U β (hU.less (fun l hl=>by simp [hl])) (fun i hi=> ?_)⟩⟩
    ·rw[hβ i hi1];rw[if_pos hi2]
    ·rw[hβ i (by omega)];rw[if_neg (by omega)]
end
end Go.Cm
