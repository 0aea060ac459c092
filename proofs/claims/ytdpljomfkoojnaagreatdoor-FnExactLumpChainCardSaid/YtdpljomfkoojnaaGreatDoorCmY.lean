import Derived.Test.YtdpljomfkoojnaaGreatDoorCmX
set_option linter.unusedVariables false
namespace Go.Cm
section
variable {cx:Cx} {E:En} {S:St} {α:Nat->CO} {a:Act} {w:World} {o:Oper} {us:List Up}
theorem unpack_len {fl:Bool} :∀ {k:Kd} {x:k.Ty},(unpack fl k x).length=k.sz
 | .int _,_| .bool,_| .str,_| .sl _,_| .pt _,_| .sv _,_| .er,_=>rfl
 | .st f,x=>unpack_len (k:=f)
 | .pair a b,x=>by simp [unpack,Kd.sz,unpack_len (k:=a),unpack_len (k:=b)]
def HdM (E:En) (S:St) (α:Nat->CO) (used:List Nat) (M' Mb':Nat->Nat->Prop):Prop:=
 (∀b o,M' b o->MM E.M0 S.heap α b o)/\(∀b o,Mb' b o->MM E.W0 S.heap α b o)/\(∀l∈used,∀b o,M' b o->¬fp (S.heap l).2 (α l) b o)
theorem HdM.less {used used':List Nat} {M' Mb':Nat->Nat->Prop} (h:HdM E S α used M' Mb') (hs:∀l∈used',l∈used):HdM E S α used' M' Mb':=⟨h.1,h.2.1,fun l hl=>h.2.2 l (hs l hl)⟩
structure HdF (E:En) (S:St) (α:Nat->CO) (a:Act) (w:World) (h:Hd) (p:Hp (HTy h)) (α':Nat->CO):Prop where
 no:∀l,l∉p.kept->hdHeap h p.x l=(0, .no)
 kept:∀l∈p.kept,(∀b o,fp (hdHeap h p.x l).2 (α' l) b o->fp (S.heap l).2 (α l) b o)/\(isMine (S.heap l).2=false->(∃b o,fp (hdHeap h p.x l).2 (α' l) b o)->isMine (hdHeap h p.x l).2=false)/\(hdHeap h p.x l).1=0/\
  (∀M' Mb' H'' α'',HdM E S α p.used M' Mb'->(∀l∈p.kept,H'' l=hdHeap h p.x l/\α'' l=α' l)->OR w M' Mb' H'' α'' (hdHeap h p.x l).2 (α' l))/\(isMine (hdHeap h p.x l).2=false->Frn (α' l) (E.γ l))
 used:∀l∈p.used,∃k full,(S.heap l).2= .arr true false k full
 env:∀s M' Mb' H'' α'',HdM E S α p.used M' Mb'->(∀l∈p.kept,H'' l=hdHeap h p.x l/\α'' l=α' l)->VR (VR0 w M' Mb' H'' α'') (hdEnv h p.x s) (a.tmps.getD s undef)
theorem vr_dat (h:Inv E S α a w) {s:Nat} {ag:Bool} {cs:List A0} (he:S.env s= .one ag cs) {fl:Bool} {k:Kd} {p:Pk k.Ty} (hag:ag=isSt k) (hp:(pack fl k cs).ev S=some p) (hr:p.rest=[]) (hb:p.bo=[]):
  (∀l∈p.fr,∃k full,(S.heap l).2= .arr true false k full)/\
  ∃us,a.tmps.getD s undef=enc (isSt k) us/\us.length=k.sz/\∀U:Nat->Nat->Prop,(∀b o,U b o->MM (if fl=true then E.W0 else E.M0) S.heap α b o)->(∀l∈p.fr,∀b o,U b o->¬fp (S.heap l).2 (α l) b o)->RdC w U k us p.x:=by
 have hv:=h.slt s;rw[he]at hv;obtain⟨us,h1,h2,h3⟩:=hv;obtain⟨⟨u1,u2,r1,r2,r3,r4⟩,r5,r6⟩:=pack_sound h k fl _ _ p hp h2;rw[hr]at r3;cases r3;rw[List.append_nil]at r1;subst r1;refine⟨r5,us,by rw[<-hag];exact h1,r2,fun U hU hU2=>r4 U hU (fun l hl=> ?_)⟩;rcases hl with hl|hl
 ·exact hU2 l hl
 ·rw[hb]at hl;simp at hl
theorem vr_unpack {w:World} {M Mb:Nat->Nat->Prop} {H:Nat->Nat×AO} {α:Nat->CO} {fl:Bool} {k:Kd} {us:List Value} {x:k.Ty} (h:RdC w (if fl=true then Mb else M) k us x) (hk:isSt k=false->k.sz=1):VR (VR0 w M Mb H α) (.one (isSt k) (unpack fl k x)) (enc (isSt k) us):=
 ⟨us,rfl,unpack_rd h,fun hs=>by rw[unpack_len];exact hk hs⟩
theorem okHd_cons {q:Nat×Sp} {h:Hd} (hk:okHd (q::h)=true):okHd [q]=true/\okHd h=true:=by
 simp only[okHd,List.all_cons,List.all_nil,Bool.and_eq_true,Bool.and_true]at hk ⊢;exact hk
theorem okSp {s:Nat} {fl:Bool} {k:Kd} (hk:okHd [(s, .dat fl k)]=true):isSt k=false->k.sz=1:=by
 intro hs;cases k<;>first|rfl|(simp [isSt]at hs;done)|(simp [okHd]at hk;done)
theorem no_rows {mine:Bool} {k:Kd} {rg:Nat} {hdr:List (Nat×Nat)} {inn:List (List k.Ty)} {b o:Nat} (h:fp (.rows mine k rg hdr inn) (.rows none 0 0 []) b o):False:=by
 rcases h with ⟨oo,hA,_⟩|⟨m,hm,_⟩
 ·cases hA
 ·simp at hm
theorem rows_nil (w:World) (M:Nat->Nat->Prop) (k:Kd):RowsOk w M true k (hd0 ([]:List (List k.Ty×Nat))) (in0 []) none 0 0 []:=
 ⟨Nat.le_refl _,fun h=>(by cases h),Nat.le_refl _,fun _=>rfl,by simp,rfl,fun i p hp=>(by simp [hd0]at hp),fun b o hA=>(by cases hA),fun j xs m hx hm=>(by simp at hm),fun j j' m m' b o _ hm _ _ _=>(by simp at hm),fun m hm=>(by simp at hm)⟩
theorem wide_ev {γ:Type} {S:St} {f:Option (Nat×Nat)->Nat} {n:Nat} {vw:Option (Nat×Nat)} {m:Cm γ} {r:γ} (h0:vw=none->f vw=n) (h:(wide f n vw m).ev S=some r):f vw=n/\m.ev S=some r:=by
 cases vw with
 |none=>exact⟨h0 rfl,h⟩
 |some p=>
  simp only[wide,Cm.ev]at h;split at h
  ·rename_i hc;exact⟨of_decide_eq_true hc,h⟩
  ·cases h
theorem hdPack_facts (hI:Inv E S α a w):∀(h:Hd) (p:Hp (HTy h)),okHd h=true->(hdPack h).ev S=some p->dup p.kept=false->∃α',HdF E S α a w h p α'
 | [],p,_,hp,_=>by
  have:=ret_ev hp;subst this;exact⟨fun _=> .no,fun _ _=>rfl,fun l hl=>by simp at hl,fun l hl=>by simp at hl,fun s _ _ _ _ _ _=>vr_c0 trivial⟩
 |(s, .dat fl k)::r,p,hk,hp,hd=>by
  simp only[hdPack,Cm.ev]at hp;split at hp
  case h_2=>exact(fail_ev hp).elim
  rename_i ag cs he;split at hp
  case isFalse=>exact(fail_ev hp).elim
  rename_i hag;obtain⟨p1,h1,h2⟩:=bind_ev hp;split at h2
  case h_2=>exact(fail_ev h2).elim
  rename_i hr hb;split at h2
  ·exact(fail_ev h2).elim
  rename_i hfe;obtain⟨q,h3,h4⟩:=bind_ev h2;have:=ret_ev h4;subst this;obtain⟨hk1,hk2⟩:=okHd_cons hk;obtain⟨α',F⟩:=hdPack_facts hI r q hk2 h3 hd;obtain⟨g1,us,g2,g3,g4⟩:=vr_dat hI he hag h1 hr hb;refine⟨α',F.no,fun l hl=> ?_,fun l hl=> ?_,fun s' M' Mb' H'' α'' hM hH=> ?_⟩
  ·obtain⟨k1,k2,k3,k4,k5⟩:=F.kept l hl;exact⟨k1,k2,k3,fun M' Mb' H'' α'' hM hH=>k4 M' Mb' H'' α'' (hM.less (fun l hl=>by simp [hl])) hH,k5⟩
  ·rcases List.mem_append.1 hl with hl|hl
   ·exact g1 l hl
   ·exact F.used l hl
  ·simp only[hdEnv,beq_iff]
   by_cases hs:s'=s
   ·subst hs;simp only[decide_true,cond_true];rw[g2];refine vr_unpack ?_ (okSp hk1);cases fl with
    |true=>
     refine g4 Mb' hM.2.1 (fun l hl b o hu hf=> ?_);obtain⟨kk,full,hq⟩:=g1 l hl;have hfr:p1.fr=[]:=by simpa using hfe
     rw[hfr]at hl;simp at hl
    |false=>exact g4 M' hM.1 (fun l hl=>hM.2.2 l (by simp [hl]))
   ·simp only[hs,decide_false,cond_false];exact F.env s' M' Mb' H'' α'' (hM.less (fun l hl=>by simp [hl])) hH
 |(s, .pm k)::r,p,hk,hp,hd=>by
  simp only[hdPack,Cm.ev]at hp;split at hp
  case h_2=>exact(fail_ev hp).elim
  rename_i k' x hg;split at hp
  case isFalse=>exact(fail_ev hp).elim
  rename_i hgf;subst hgf;obtain⟨q,h3,h4⟩:=bind_ev hp;have:=ret_ev h4;subst this;obtain⟨hk1,hk2⟩:=okHd_cons hk;obtain⟨α',F⟩:=hdPack_facts hI r q hk2 h3 hd;refine⟨α',F.no,F.kept,F.used,fun s' M' Mb' H'' α'' hM hH=> ?_⟩;simp only[hdEnv,beq_iff]
  by_cases hs:s'=s
  ·subst hs;simp only[decide_true,cond_true];have hv:=hI.slt s';rw[hg]at hv;obtain⟨b,oo,es,e1,e2,e3⟩:=vr_c0_inv hv;exact vr_c0 ⟨b,oo,es,e1,e2.mono (Keeps.less hM.1),e3.mono (Keeps.less hM.2.1)⟩
  ·simp only[hs,decide_false,cond_false];exact F.env s' M' Mb' H'' α'' hM hH
 |(s, .fn f)::r,p,hk,hp,hd=>by
  simp only[hdPack,Cm.ev]at hp;split at hp
  case h_2=>exact(fail_ev hp).elim
  rename_i g hg;split at hp
  case isFalse=>exact(fail_ev hp).elim
  rename_i hgf;subst hgf;obtain⟨q,h3,h4⟩:=bind_ev hp;have:=ret_ev h4;subst this;obtain⟨hk1,hk2⟩:=okHd_cons hk;obtain⟨α',F⟩:=hdPack_facts hI r q hk2 h3 hd;refine⟨α',F.no,F.kept,F.used,fun s' M' Mb' H'' α'' hM hH=> ?_⟩;simp only[hdEnv,beq_iff]
  by_cases hs:s'=s
  ·subst hs;simp only[decide_true,cond_true];have hv:=hI.slt s';rw[fnOf_eq hg]at hv;rw[vr_c0_inv hv];exact vr_vl rfl
  ·simp only[hs,decide_false,cond_false];exact F.env s' M' Mb' H'' α'' hM hH
 |(s, .var l k)::r,p,hk,hp,hd=>by
  simp only[hdPack,Cm.ev]at hp;split at hp
  case h_2=>exact(fail_ev hp).elim
  rename_i l' g he;split at hp
  case isFalse=>exact(fail_ev hp).elim
  rename_i hll;subst hll;simp only[Cm.ev]at hp;split at hp
  case isFalse=>exact(fail_ev hp).elim
  rename_i hg;split at hp
  case h_2=>exact(fail_ev hp).elim
  rename_i cs hob;obtain⟨p1,h1,h2⟩:=bind_ev hp;split at h2
  case h_2=>exact(fail_ev h2).elim
  rename_i hr;obtain⟨q,h3,h4⟩:=bind_ev h2;have:=ret_ev h4;subst this;obtain⟨hk1,hk2⟩:=okHd_cons hk;obtain⟨d1,d2⟩:=dup_not hd;obtain⟨α',F⟩:=hdPack_facts hI r q hk2 h3 d2;have hv:=hI.slt s;rw[he]at hv;have hr0:=vr_c0_inv hv;have hpv:=hr0.1.2 hg;have hor:=hI.obj l';obtain⟨b,hα⟩:=vars_co hI hob;rw[hob,hα]at hpv hor;obtain⟨ws,w1,w2⟩:=hor;obtain⟨⟨u1,u2,r1,r2,r3,r4⟩,r5,r6⟩:=pack_sound hI k false _ _ p1 h1 w1;rw[hr]at r3;cases r3;rw[List.append_nil]at r1;subst r1;have hcs:cs.length=k.sz:=by rw[w1.length,r2]
  have hhead:∀t,hdHeap ((s, .var l' k)::r) (p1.x,q.x) t=if t=l' then(0, .vars (unpack false k p1.x))else hdHeap r q.x t:=by
   intro t;simp only[hdHeap,beq_iff]
   by_cases ht:t=l'<;>simp [ht]
  refine⟨fun t=>if t=l' then .vars b else α' t,?_,?_,?_,?_⟩
  ·intro t ht;simp at ht;rw[hhead,if_neg ht.1];exact F.no t ht.2
  ·intro t ht;rw[hhead]
   by_cases htl:t=l'
   ·subst htl;simp only[if_true];refine⟨fun b' i' hf=> ?_,(fun hm _=>by rw[hob]at hm;cases hm),trivial,fun M' Mb' H'' α'' hM hH=> ?_,fun hm=>by cases hm⟩
    ·rw[hob,hα];obtain⟨rfl,hf⟩:=hf;rw[unpack_len]at hf;exact⟨rfl,by omega⟩
    ·refine⟨ws,unpack_rd (fl:=false) (x:=p1.x) (r4 M' hM.1 (fun l hl=> ?_)),w2⟩;rcases hl with hl|hl
     ·exact hM.2.2 l (by simp [hl])
     ·rw[r6 rfl]at hl;simp at hl
   ·simp at ht;obtain⟨k1,k2,k3,k4,k5⟩:=F.kept t (ht.resolve_left htl);simp only[htl,if_false]
    exact⟨k1,k2,k3,fun M' Mb' H'' α'' hM hH=>k4 M' Mb' H'' α'' (hM.less (fun l hl=>by simp [hl])) (fun t ht=>by
      obtain⟨e1,e2⟩:=hH t (by simp [ht]);have htl:¬t=l':=fun e=>d1 (e▸ht)
      rw[hhead,if_neg htl]at e1;simp only[htl,if_false]at e2;exact⟨e1,e2⟩),k5⟩
  ·intro l hl;rcases List.mem_append.1 hl with hl|hl
   ·exact r5 l hl
   ·exact F.used l hl
  ·intro s' M' Mb' H'' α'' hM hH;simp only[hdEnv,beq_iff]
   by_cases hs:s'=s
   ·subst hs;simp only[decide_true,cond_true];obtain⟨e1,e2⟩:=hH l' (by simp);rw[hhead,if_pos rfl]at e1;simp only[if_true]at e2;refine vr_c0 ⟨⟨Nat.zero_le _,fun _=> ?_⟩,?_⟩
    ·rw[e1,e2];exact hpv
    ·rw[show a.tmps.getD s' undef= .pointer (some ⟨b,0,none⟩)from hpv];rfl
   ·simp only[hs,decide_false,cond_false];refine F.env s' M' Mb' H'' α'' (hM.less (fun l hl=>by simp [hl])) (fun t ht=> ?_);obtain⟨e1,e2⟩:=hH t (by simp [ht]);have htl:¬t=l':=fun e=>d1 (e▸ht)
    rw[hhead,if_neg htl]at e1;simp only[htl,if_false]at e2;exact⟨e1,e2⟩
 |(s, .varb l k)::r,p,hk,hp,hd=>by
  simp only[hdPack,Cm.ev]at hp;split at hp
  case h_2=>exact(fail_ev hp).elim
  rename_i l' g he;split at hp
  case isFalse=>exact(fail_ev hp).elim
  rename_i hll;subst hll;simp only[Cm.ev]at hp;split at hp
  case isFalse=>exact(fail_ev hp).elim
  rename_i hg;split at hp
  case h_2=>exact(fail_ev hp).elim
  rename_i cs hob;obtain⟨p1,h1,h2⟩:=bind_ev hp;split at h2
  case h_2=>exact(fail_ev h2).elim
  rename_i hr hbo hfr;obtain⟨q,h3,h4⟩:=bind_ev h2;have:=ret_ev h4;subst this;obtain⟨hk1,hk2⟩:=okHd_cons hk;obtain⟨d1,d2⟩:=dup_not hd;obtain⟨α',F⟩:=hdPack_facts hI r q hk2 h3 d2;have hv:=hI.slt s;rw[he]at hv;have hr0:=vr_c0_inv hv;have hpv:=hr0.1.2 hg;have hor:=hI.obj l';obtain⟨b,hα⟩:=vars_co hI hob;rw[hob,hα]at hpv hor;obtain⟨ws,w1,w2⟩:=hor;obtain⟨⟨u1,u2,r1,r2,r3,r4⟩,r5,r6⟩:=pack_sound hI k true _ _ p1 h1 w1;rw[hr]at r3;cases r3;rw[List.append_nil]at r1;subst r1;have hcs:cs.length=k.sz:=by rw[w1.length,r2]
  have hhead:∀t,hdHeap ((s, .varb l' k)::r) (p1.x,q.x) t=if t=l' then(0, .vars (unpack true k p1.x))else hdHeap r q.x t:=by
   intro t;simp only[hdHeap,beq_iff]
   by_cases ht:t=l'<;>simp [ht]
  refine⟨fun t=>if t=l' then .vars b else α' t,?_,?_,?_,?_⟩
  ·intro t ht;simp at ht;rw[hhead,if_neg ht.1];exact F.no t ht.2
  ·intro t ht;rw[hhead]
   by_cases htl:t=l'
   ·subst htl;simp only[if_true];refine⟨fun b' i' hf=> ?_,(fun hm _=>by rw[hob]at hm;cases hm),trivial,fun M' Mb' H'' α'' hM hH=> ?_,fun hm=>by cases hm⟩
    ·rw[hob,hα];obtain⟨rfl,hf⟩:=hf;rw[unpack_len]at hf;exact⟨rfl,by omega⟩
    ·refine⟨ws,unpack_rd (fl:=true) (x:=p1.x) (r4 Mb' hM.2.1 (fun l hl=> ?_)),w2⟩;rcases hl with hl|hl
     ·rw[hfr]at hl;simp at hl
     ·rw[hbo]at hl;simp at hl
   ·simp at ht;obtain⟨k1,k2,k3,k4,k5⟩:=F.kept t (ht.resolve_left htl);simp only[htl,if_false];exact⟨k1,k2,k3,fun M' Mb' H'' α'' hM hH=>k4 M' Mb' H'' α'' hM (fun t ht=>by
      obtain⟨e1,e2⟩:=hH t (by simp [ht]);have htl:¬t=l':=fun e=>d1 (e▸ht)
      rw[hhead,if_neg htl]at e1;simp only[htl,if_false]at e2;exact⟨e1,e2⟩),k5⟩
  ·exact F.used
  ·intro s' M' Mb' H'' α'' hM hH;simp only[hdEnv,beq_iff]
   by_cases hs:s'=s
   ·subst hs;simp only[decide_true,cond_true];obtain⟨e1,e2⟩:=hH l' (by simp);rw[hhead,if_pos rfl]at e1;simp only[if_true]at e2;refine vr_c0 ⟨⟨Nat.zero_le _,fun _=> ?_⟩,?_⟩
    ·rw[e1,e2];exact hpv
    ·rw[show a.tmps.getD s' undef= .pointer (some ⟨b,0,none⟩)from hpv];rfl
   ·simp only[hs,decide_false,cond_false];refine F.env s' M' Mb' H'' α'' hM (fun t ht=> ?_);obtain⟨e1,e2⟩:=hH t (by simp [ht]);have htl:¬t=l':=fun e=>d1 (e▸ht)
    rw[hhead,if_neg htl]at e1;simp only[htl,if_false]at e2;exact⟨e1,e2⟩
 |(s, .vow l l2 k)::r,p,hk,hp,hd=>by
  simp only[hdPack,Cm.ev]at hp;split at hp
  case h_2=>exact(fail_ev hp).elim
  rename_i l' g he;split at hp
  case isFalse=>exact(fail_ev hp).elim
  rename_i hll;subst hll;simp only[Cm.ev]at hp;split at hp
  case isFalse=>exact(fail_ev hp).elim
  rename_i hg;obtain⟨hk1,hk2⟩:=okHd_cons hk;have hv:=hI.slt s;rw[he]at hv;have hr0:=vr_c0_inv hv;have hpv:=hr0.1.2 hg;have hor:=hI.obj l';have key:∀(xs:List k.Ty) (q:Hp (HTy r)) (b:Nat) (c2:CO) (u:Value),(hdPack r).ev S=some q->dup (l'::l2::q.kept)=false->a.tmps.getD s undef= .pointer (some ⟨b,0,none⟩)->
    (∀b' i',fp (.vars [A0.ref l2 0 none]) (.vars b) b' i'->fp (S.heap l').2 (α l') b' i')->isMine (S.heap l').2=true->(w.cell? ⟨b,0,none⟩=some u/\w.frozen? ⟨b,0,none⟩=false/\u.oneCell'=true)->
    (∀b' i',fp (.arr true false k xs) c2 b' i'->fp (S.heap l2).2 (α l2) b' i')->(isMine (S.heap l2).2=false->(∃b' i',fp (.arr true false k xs) c2 b' i')->False)->
    (∀M',(∀b o,M' b o->MM E.M0 S.heap α b o)->∀Mb' H'' α'',OR w M' Mb' H'' α'' (.arr true false k xs) c2)->RefAt none u (.arr true false k xs) c2->
    ∃α',HdF E S α a w ((s, .vow l' l2 k)::r) ⟨(xs,q.x),q.used,l'::l2::q.kept⟩ α':=by
   intro xs q b c2 u h3 hdq hptr hfv hmv hcell hf2 hm2 ho2 hra;obtain⟨d1,d2⟩:=dup_not hdq;obtain⟨d3,d4⟩:=dup_not d2;simp only[List.mem_cons,not_or]at d1;obtain⟨α',F⟩:=hdPack_facts hI r q hk2 h3 d4;have hhead:∀t,hdHeap ((s, .vow l' l2 k)::r) (xs,q.x) t=if t=l' then(0, .vars [.ref l2 0 none])else if t=l2 then(0, .arr true false k xs)else hdHeap r q.x t:=by
    intro t;simp only[hdHeap,beq_iff]
    by_cases ht:t=l'
    ·simp [ht]
    ·by_cases ht2:t=l2<;>simp [ht,ht2]
   have hrest:∀ {H'':Nat->Nat×AO} {α'':Nat->CO},(∀t∈l'::l2::q.kept,H'' t=hdHeap ((s, .vow l' l2 k)::r) (xs,q.x) t/\α'' t=(if t=l' then .vars b else if t=l2 then c2 else α' t))->∀t∈q.kept,H'' t=hdHeap r q.x t/\α'' t=α' t:=by
    intro H'' α'' hH t ht;obtain⟨e1,e2⟩:=hH t (by simp [ht]);have t1:¬t=l':=fun e=>d1.2 (e▸ht)
    have t2:¬t=l2:=fun e=>d3 (e▸ht)
    rw[hhead,if_neg t1,if_neg t2]at e1;simp only[t1,t2,if_false]at e2;exact⟨e1,e2⟩
   have hl2:¬l2=l':=fun e=>d1.1 e.symm
   refine⟨fun t=>if t=l' then .vars b else if t=l2 then c2 else α' t,?_,?_,F.used,?_⟩
   ·intro t ht;simp at ht;rw[hhead,if_neg ht.1,if_neg ht.2.1];exact F.no t ht.2.2
   ·intro t ht;rw[hhead]
    by_cases ht1:t=l'
    ·subst ht1;simp only[if_true];refine⟨fun b' i' hf=>hfv b' i' hf,(fun hm _=>by rw[hmv]at hm;cases hm),trivial,fun M' Mb' H'' α'' hM hH=> ?_,fun hm=>by cases hm⟩;obtain⟨e1,e2⟩:=hH l2 (by simp);rw[hhead,if_neg hl2,if_pos rfl]at e1;simp only[hl2,if_true,if_false]at e2;refine⟨[u], .cons ⟨⟨by rw[e1];exact Nat.zero_le _,fun _=> ?_⟩,hcell.2.2⟩ .nil,fun j v hj=> ?_⟩
     ·rw[e1,e2];exact hra
     ·match j with
      |0=>
       simp at hj;subst hj;exact hcell
      |j+1=>simp at hj
    ·by_cases ht2:t=l2
     ·subst ht2;simp only[ht1,if_true,if_false];exact⟨hf2,fun hm hf=>(hm2 hm hf).elim,trivial,fun M' Mb' H'' α'' hM _=>ho2 M' hM.1 Mb' H'' α'',fun hm=>by cases hm⟩
     ·simp at ht;obtain⟨k1,k2,k3,k4,k5⟩:=F.kept t ((ht.resolve_left ht1).resolve_left ht2);simp only[ht1,ht2,if_false];exact⟨k1,k2,k3,fun M' Mb' H'' α'' hM hH=>k4 M' Mb' H'' α'' hM (hrest hH),k5⟩
   ·intro s' M' Mb' H'' α'' hM hH;simp only[hdEnv,beq_iff]
    by_cases hs:s'=s
    ·subst hs;simp only[decide_true,cond_true];obtain⟨e1,e2⟩:=hH l' (by simp);rw[hhead,if_pos rfl]at e1;simp only[if_true]at e2;rw[hptr];refine vr_c0 ⟨⟨Nat.zero_le _,fun _=> ?_⟩,rfl⟩;rw[e1,e2];rfl
    ·simp only[hs,decide_false,cond_false];exact F.env s' M' Mb' H'' α'' hM (hrest hH)
  split at hp
  case h_3=>exact(fail_ev hp).elim
  case h_1 lr gr vw hob=>
   split at hp
   case isFalse=>exact(fail_ev hp).elim
   rename_i hlr;obtain⟨rfl,hvw⟩:=hlr;have hvw:vw=none:=by simpa using hvw
   subst hvw;simp only[Cm.ev]at hp;split at hp
   case isFalse=>exact(fail_ev hp).elim
   rename_i hgr;split at hp
   case h_2=>exact(fail_ev hp).elim
   rename_i k' full hob2;split at hp
   case isFalse=>exact(fail_ev hp).elim
   rename_i hkk;subst hkk;obtain⟨q,h3,h4⟩:=bind_ev hp;have:=ret_ev h4;subst this;simp only[castL_rfl];obtain⟨b,hα⟩:=vars_co hI hob;rw[hob,hα]at hpv hor;obtain⟨ws,w1,w2⟩:=hor;cases w1 with
   | @cons _ u _ us w3 w4=>
   cases w4;have hor2:=hI.obj lr;obtain⟨A,cap,real,hα2⟩:=arr_co hI hob2;have hra:=w3.1.2 hgr;rw[hob2,hα2]at hor2 hra;refine key full q b (.arr A cap real) u h3 hd hpv (fun b' i' hf=>by rw[hob,hα];exact hf) (by rw[hob];rfl) (w2 0 u rfl) (fun b' i' hf=>by rw[hob2,hα2];exact hf) (fun hm=>by rw[hob2]at hm;cases hm) (fun M' hM' Mb' H'' α''=> ?_) hra;obtain⟨c1,c2,c3,c4,c5⟩:=hor2;refine⟨c1,c2,c3,c4,fun b o hA=> ?_⟩;obtain⟨c6,c7⟩:=c5 b o hA;refine⟨fun i x hx=> ?_,c7⟩;obtain⟨es,e1,e2,_⟩:=c6 i x hx;exact⟨es,e1.mono (Keeps.less hM'),e2,fun hz=>by cases hz⟩
  case h_2 hob=>
   obtain⟨q,h3,h4⟩:=bind_ev hp;have:=ret_ev h4;subst this;obtain⟨b,hα⟩:=vars_co hI hob;rw[hob,hα]at hpv hor;obtain⟨ws,w1,w2⟩:=hor;cases w1 with
   | @cons _ u _ us w3 w4=>
   cases w4;have hu:u= .slice none 0 0:=w3;subst hu;exact key [] q b (.arr none 0 0) _ h3 hd hpv (fun b' i' hf=>by rw[hob,hα];exact hf) (by rw[hob];rfl) (w2 0 _ rfl) (fun b' i' hf=>hf.elim) (fun _ hf=>by obtain⟨b,o,hf⟩:=hf;exact hf.elim) (fun M' hM' Mb' H'' α''=>⟨⟨Nat.le_refl _,fun _=>rfl⟩,Nat.le_refl _,fun _=>rfl,fun _=>rfl,fun b o hA=>by cases hA⟩) (refAt_none ⟨none,rfl,Nat.le_refl _,fun hc=>by cases hc⟩)
 |(s, .vrow l l2 k)::r,p,hk,hp,hd=>by
  simp only[hdPack,Cm.ev]at hp;split at hp
  case h_2=>exact(fail_ev hp).elim
  rename_i l' g he;split at hp
  case isFalse=>exact(fail_ev hp).elim
  rename_i hll;subst hll;simp only[Cm.ev]at hp;split at hp
  case isFalse=>exact(fail_ev hp).elim
  rename_i hg;obtain⟨hk1,hk2⟩:=okHd_cons hk;have hv:=hI.slt s;rw[he]at hv;have hr0:=vr_c0_inv hv;have hpv:=hr0.1.2 hg;have hor:=hI.obj l';have key:∀(xs:List (List k.Ty×Nat)) (q:Hp (HTy r)) (b:Nat) (c2:CO) (u:Value),(hdPack r).ev S=some q->dup (l'::l2::q.kept)=false->a.tmps.getD s undef= .pointer (some ⟨b,0,none⟩)->
    (∀b' i',fp (.vars [A0.ref l2 0 none]) (.vars b) b' i'->fp (S.heap l').2 (α l') b' i')->isMine (S.heap l').2=true->(w.cell? ⟨b,0,none⟩=some u/\w.frozen? ⟨b,0,none⟩=false/\u.oneCell'=true)->
    (∀b' i',fp (ao0 true k xs) c2 b' i'->fp (S.heap l2).2 (α l2) b' i')->(isMine (S.heap l2).2=false->(∃b' i',fp (ao0 true k xs) c2 b' i')->False)->
    (∀M',(∀b o,M' b o->MM E.M0 S.heap α b o)->∀Mb' H'' α'',OR w M' Mb' H'' α'' (ao0 true k xs) c2)->RefAt none u (ao0 true k xs) c2->
    ∃α',HdF E S α a w ((s, .vrow l' l2 k)::r) ⟨(xs,q.x),q.used,l'::l2::q.kept⟩ α':=by
   intro xs q b c2 u h3 hdq hptr hfv hmv hcell hf2 hm2 ho2 hra;obtain⟨d1,d2⟩:=dup_not hdq;obtain⟨d3,d4⟩:=dup_not d2;simp only[List.mem_cons,not_or]at d1;obtain⟨α',F⟩:=hdPack_facts hI r q hk2 h3 d4;have hhead:∀t,hdHeap ((s, .vrow l' l2 k)::r) (xs,q.x) t=if t=l' then(0, .vars [.ref l2 0 none])else if t=l2 then(0,ao0 true k xs)else hdHeap r q.x t:=by
    intro t;simp only[hdHeap,beq_iff]
    by_cases ht:t=l'
    ·simp [ht]
    ·by_cases ht2:t=l2<;>simp [ht,ht2]
   have hrest:∀ {H'':Nat->Nat×AO} {α'':Nat->CO},(∀t∈l'::l2::q.kept,H'' t=hdHeap ((s, .vrow l' l2 k)::r) (xs,q.x) t/\α'' t=(if t=l' then .vars b else if t=l2 then c2 else α' t))->∀t∈q.kept,H'' t=hdHeap r q.x t/\α'' t=α' t:=by
    intro H'' α'' hH t ht;obtain⟨e1,e2⟩:=hH t (by simp [ht]);have t1:¬t=l':=fun e=>d1.2 (e▸ht)
    have t2:¬t=l2:=fun e=>d3 (e▸ht)
    rw[hhead,if_neg t1,if_neg t2]at e1;simp only[t1,t2,if_false]at e2;exact⟨e1,e2⟩
   have hl2:¬l2=l':=fun e=>d1.1 e.symm
   refine⟨fun t=>if t=l' then .vars b else if t=l2 then c2 else α' t,?_,?_,F.used,?_⟩
   ·intro t ht;simp at ht;rw[hhead,if_neg ht.1,if_neg ht.2.1];exact F.no t ht.2.2
   ·intro t ht;rw[hhead]
    by_cases ht1:t=l'
    ·subst ht1;simp only[if_true];refine⟨fun b' i' hf=>hfv b' i' hf,(fun hm _=>by rw[hmv]at hm;cases hm),trivial,fun M' Mb' H'' α'' hM hH=> ?_,fun hm=>by cases hm⟩;obtain⟨e1,e2⟩:=hH l2 (by simp);rw[hhead,if_neg hl2,if_pos rfl]at e1;simp only[hl2,if_true,if_false]at e2;refine⟨[u], .cons ⟨⟨by rw[e1];exact Nat.zero_le _,fun _=> ?_⟩,hcell.2.2⟩ .nil,fun j v hj=> ?_⟩
     ·rw[e1,e2];exact hra
     ·match j with
      |0=>
       simp at hj;subst hj;exact hcell
      |j+1=>simp at hj
    ·by_cases ht2:t=l2
     ·subst ht2;simp only[ht1,if_true,if_false];exact⟨hf2,fun hm hf=>(hm2 hm hf).elim,trivial,fun M' Mb' H'' α'' hM _=>ho2 M' hM.1 Mb' H'' α'',fun hm=>by cases hm⟩
     ·simp at ht;obtain⟨k1,k2,k3,k4,k5⟩:=F.kept t ((ht.resolve_left ht1).resolve_left ht2);simp only[ht1,ht2,if_false];exact⟨k1,k2,k3,fun M' Mb' H'' α'' hM hH=>k4 M' Mb' H'' α'' hM (hrest hH),k5⟩
   ·intro s' M' Mb' H'' α'' hM hH;simp only[hdEnv,beq_iff]
    by_cases hs:s'=s
    ·subst hs;simp only[decide_true,cond_true];obtain⟨e1,e2⟩:=hH l' (by simp);rw[hhead,if_pos rfl]at e1;simp only[if_true]at e2;rw[hptr];refine vr_c0 ⟨⟨Nat.zero_le _,fun _=> ?_⟩,rfl⟩;rw[e1,e2];rfl
    ·simp only[hs,decide_false,cond_false];exact F.env s' M' Mb' H'' α'' hM (hrest hH)
  split at hp
  case h_3=>exact(fail_ev hp).elim
  case h_1 lr gr vw hob=>
   split at hp
   case isFalse=>exact(fail_ev hp).elim
   rename_i hlr;obtain⟨rfl,hvw⟩:=hlr;have hvw:vw=none:=by simpa using hvw
   subst hvw;simp only[Cm.ev]at hp;split at hp
   case isFalse=>exact(fail_ev hp).elim
   rename_i hgr;split at hp
   case h_2=>exact(fail_ev hp).elim
   rename_i k' rg hdr inn hob2;split at hp
   case isFalse=>exact(fail_ev hp).elim
   rename_i hkk;subst hkk;simp only[Cm.ev]at hp;split at hp
   ·cases hp
   rename_i hdup;have hdup:dup (hdr.map fun p=>p.1)=false:=by simpa using hdup
   obtain⟨q,h3,h4⟩:=bind_ev hp;have:=ret_ev h4;subst this;simp only[castL_rfl];obtain⟨b,hα⟩:=vars_co hI hob;rw[hob,hα]at hpv hor;obtain⟨ws,w1,w2⟩:=hor;cases w1 with
   | @cons _ u _ us w3 w4=>
   cases w4;obtain⟨A,cap,real,ms,hα2,R⟩:=rows_co hI hob2;have hra:=w3.1.2 hgr;rw[hob2,hα2]at hra;have hview:=fun(M':Nat->Nat->Prop) (hM':∀b o,M' b o->MM E.M0 S.heap α b o)=>rows_view R (len:=hdr.length) (Nat.le_refl _) (by rw[List.take_length];exact hdup) true cap R.len (Nat.le_refl _) (fun h=>by cases h) R.mcap (M':=M') hM'
   rw[List.take_length]at hview;have hnl:(nrm hdr inn).length=hdr.length:=nrm_length _ _;refine key (nrm hdr inn) q b (.rows A cap real (viewMs hdr ms hdr.length)) u h3 hd hpv (fun b' i' hf=>by rw[hob,hα];exact hf) (by rw[hob];rfl) (w2 0 u rfl) (fun b' i' hf=> ?_) (fun hm=>by rw[hob2]at hm;cases hm) (fun M' hM' Mb' H'' α''=>(hview M' hM').1) ?_
   ·rw[hob2,hα2];rcases hf with hf|⟨m,hm,hs⟩
    ·exact .inl hf
    ·exact .inr ⟨m,(hview _ (fun _ _ h=>h)).2 m hm,hs⟩
   ·obtain⟨g1,g2⟩:=hra;refine⟨by show 0+vlen (hd0 _) none<=(hd0 _).length;simp [vlen],?_⟩;have hl:vlen (hd0 (nrm hdr inn)) none=vlen hdr none:=by show(hd0 (nrm hdr inn)).length=hdr.length;rw[hd0_length,hnl]
    show SlAt A (voff none) (vlen (hd0 (nrm hdr inn)) none) (real - voff none) u;rw[hl];exact g2
  case h_2 hob=>
   obtain⟨q,h3,h4⟩:=bind_ev hp;have:=ret_ev h4;subst this;obtain⟨b,hα⟩:=vars_co hI hob;rw[hob,hα]at hpv hor;obtain⟨ws,w1,w2⟩:=hor;cases w1 with
   | @cons _ u _ us w3 w4=>
   cases w4;have hu:u= .slice none 0 0:=w3;subst hu;exact key [] q b (.rows none 0 0 []) _ h3 hd hpv (fun b' i' hf=>by rw[hob,hα];exact hf) (by rw[hob];rfl) (w2 0 _ rfl) (fun b' i' hf=>(no_rows hf).elim) (fun _ hf=>by obtain⟨b,o,hf⟩:=hf;exact no_rows hf) (fun M' hM' Mb' H'' α''=>rows_nil _ _ _) ⟨Nat.le_refl _,none,rfl,Nat.le_refl _,fun hc=>by cases hc⟩
 |(s, .rows l mine k)::r,p,hk,hp,hd=>by
  simp only[hdPack,Cm.ev]at hp;obtain⟨hk1,hk2⟩:=okHd_cons hk;have hv:=hI.slt s;have key:∀(xs:List (List k.Ty×Nat)) (q:Hp (HTy r)) (co:CO) (u:Value),(hdPack r).ev S=some q->dup (l::q.kept)=false->a.tmps.getD s undef=u->u.oneCell'=true->
    (∀b' i',fp (ao0 mine k xs) co b' i'->fp (S.heap l).2 (α l) b' i')->(isMine (S.heap l).2=false->(∃b' i',fp (ao0 mine k xs) co b' i')->mine=false)->
    (∀M',(∀b o,M' b o->MM E.M0 S.heap α b o)->∀Mb' H'' α'',OR w M' Mb' H'' α'' (ao0 mine k xs) co)->RefAt none u (ao0 mine k xs) co->(mine=false->Frn co (E.γ l))->
    ∃α',HdF E S α a w ((s, .rows l mine k)::r) ⟨(xs,q.x),q.used,l::q.kept⟩ α':=by
   intro xs q co u h3 hdq hval hone hf2 hm2 ho2 hra hfrn;obtain⟨d1,d2⟩:=dup_not hdq;obtain⟨α',F⟩:=hdPack_facts hI r q hk2 h3 d2;have hhead:∀t,hdHeap ((s, .rows l mine k)::r) (xs,q.x) t=if t=l then(0,ao0 mine k xs)else hdHeap r q.x t:=by
    intro t;simp only[hdHeap,beq_iff]
    by_cases ht:t=l<;>simp [ht]
   have hrest:∀ {H'':Nat->Nat×AO} {α'':Nat->CO},(∀t∈l::q.kept,H'' t=hdHeap ((s, .rows l mine k)::r) (xs,q.x) t/\α'' t=(if t=l then co else α' t))->∀t∈q.kept,H'' t=hdHeap r q.x t/\α'' t=α' t:=by
    intro H'' α'' hH t ht;obtain⟨e1,e2⟩:=hH t (by simp [ht]);have t1:¬t=l:=fun e=>d1 (e▸ht)
    rw[hhead,if_neg t1]at e1;simp only[t1,if_false]at e2;exact⟨e1,e2⟩
   refine⟨fun t=>if t=l then co else α' t,?_,?_,F.used,?_⟩
   ·intro t ht;simp at ht;rw[hhead,if_neg ht.1];exact F.no t ht.2
   ·intro t ht;rw[hhead]
    by_cases ht1:t=l
    ·subst ht1;simp only[if_true];exact⟨hf2,fun hm hf=>hm2 hm hf,trivial,fun M' Mb' H'' α'' hM _=>ho2 M' hM.1 Mb' H'' α'',fun hm=>hfrn hm⟩
    ·simp at ht;obtain⟨k1,k2,k3,k4,k5⟩:=F.kept t (ht.resolve_left ht1);simp only[ht1,if_false];exact⟨k1,k2,k3,fun M' Mb' H'' α'' hM hH=>k4 M' Mb' H'' α'' hM (hrest hH),k5⟩
   ·intro s' M' Mb' H'' α'' hM hH;simp only[hdEnv,beq_iff]
    by_cases hs:s'=s
    ·subst hs;simp only[decide_true,cond_true];obtain⟨e1,e2⟩:=hH l (by simp);rw[hhead,if_pos rfl]at e1;simp only[if_true]at e2;rw[hval];refine vr_c0 ⟨⟨Nat.zero_le _,fun _=> ?_⟩,hone⟩;rw[e1,e2];exact hra
    ·simp only[hs,decide_false,cond_false];exact F.env s' M' Mb' H'' α'' hM (hrest hH)
  split at hp
  case h_3=>exact(fail_ev hp).elim
  case h_1 l' g vw he=>
   split at hp
   case isFalse=>exact(fail_ev hp).elim
   rename_i hll;subst hll;simp only[Cm.ev]at hp;split at hp
   case isFalse=>exact(fail_ev hp).elim
   rename_i hg;split at hp
   case h_2=>exact(fail_ev hp).elim
   rename_i mine' k' rg hdr inn hob;split at hp
   case isFalse=>exact(fail_ev hp).elim
   rename_i hmv;obtain⟨rfl,hv0⟩:=hmv;split at hp
   case isFalse=>exact(fail_ev hp).elim
   rename_i hkk;subst hkk;obtain⟨hvl,hp⟩:=wide_ev (fun e=>by rw[e];rfl) hp;simp only[Cm.ev]at hp;split at hp
   ·cases hp
   rename_i hdup;have hdup:dup (hdr.map fun p=>p.1)=false:=by simpa using hdup
   obtain⟨q,h3,h4⟩:=bind_ev hp;have:=ret_ev h4;subst this;simp only[castL_rfl];rw[he]at hv;have hr0:=vr_c0_inv hv;have hra:=hr0.1.2 hg;obtain⟨A,cap,real,ms,hα,R⟩:=rows_co hI hob;rw[hob,hα]at hra;have hview:=fun(M':Nat->Nat->Prop) (hM':∀b o,M' b o->MM E.M0 S.heap α b o)=>rows_view R (len:=hdr.length) (Nat.le_refl _) (by rw[List.take_length];exact hdup) mine' cap R.len (Nat.le_refl _) R.full R.mcap (M':=M') hM'
   rw[List.take_length]at hview;have hnl:(nrm hdr inn).length=hdr.length:=nrm_length _ _;refine key (nrm hdr inn) q (.rows A cap real (viewMs hdr ms hdr.length)) _ h3 hd rfl hr0.2 (fun b' i' hf=> ?_) (fun hm _=>by rw[hob]at hm;exact hm) (fun M' hM' Mb' H'' α''=>(hview M' hM').1) ?_ (fun hm=> ?_)
   ·rw[hob,hα];rcases hf with hf|⟨m,hm,hs⟩
    ·exact .inl hf
    ·exact .inr ⟨m,(hview _ (fun _ _ h=>h)).2 m hm,hs⟩
   ·obtain⟨g1,g2⟩:=hra;refine⟨by show 0+vlen (hd0 _) none<=(hd0 _).length;simp [vlen],?_⟩;have hl:vlen (hd0 (nrm hdr inn)) none=vlen hdr vw:=by rw[hvl];show(hd0 (nrm hdr inn)).length=hdr.length;rw[hd0_length,hnl]
    show SlAt A (voff none) (vlen (hd0 (nrm hdr inn)) none) (real - voff none) _;rw[hl];rw[hv0]at g2;exact g2
   ·have hfr:=hI.frn l' (by rw[hob];exact hm);rw[hα]at hfr;exact Frn.trans (b:= .rows A cap real ms) ⟨ms,rfl,(hview _ (fun _ _ h=>h)).2⟩ hfr
  case h_2 he=>
   split at hp
   case isFalse=>exact(fail_ev hp).elim
   rename_i hm;subst hm;obtain⟨q,h3,h4⟩:=bind_ev hp;have:=ret_ev h4;subst this;rw[he]at hv;have hr0:a.tmps.getD s undef= .slice none 0 0:=vr_c0_inv hv;exact key [] q (.rows none 0 0 []) _ h3 hd hr0 rfl (fun b' i' hf=>(no_rows hf).elim) (fun _ hf=>by obtain⟨b,o,hf⟩:=hf;exact(no_rows hf).elim) (fun M' hM' Mb' H'' α''=>rows_nil _ _ _) ⟨Nat.le_refl _,none,rfl,Nat.le_refl _,fun hc=>by cases hc⟩ (fun hm=>by cases hm)
 |(s, .rowz s2 l mine k)::r,p,hk,hp,hd=>by
  simp only[hdPack,Cm.ev]at hp;obtain⟨hk1,hk2⟩:=okHd_cons hk;have hv:=hI.slt s;have hv2:=hI.slt s2;have key:∀(xs:List (List k.Ty×Nat)) (q:Hp (HTy r)) (co:CO) (u u2:Value),(hdPack r).ev S=some q->dup (l::q.kept)=false->a.tmps.getD s undef=u->u.oneCell'=true->a.tmps.getD s2 undef=u2->u2.oneCell'=true->
    (∀b' i',fp (ao0 mine k xs) co b' i'->fp (S.heap l).2 (α l) b' i')->(isMine (S.heap l).2=false->(∃b' i',fp (ao0 mine k xs) co b' i')->mine=false)->
    (∀M',(∀b o,M' b o->MM E.M0 S.heap α b o)->∀Mb' H'' α'',OR w M' Mb' H'' α'' (ao0 mine k xs) co)->RefAt none u (ao0 mine k xs) co->RefAt none u2 (ao0 mine k xs) co->(mine=false->Frn co (E.γ l))->
    ∃α',HdF E S α a w ((s, .rowz s2 l mine k)::r) ⟨(xs,q.x),q.used,l::q.kept⟩ α':=by
   intro xs q co u u2 h3 hdq hval hone hval2 hone2 hf2 hm2 ho2 hra hra2 hfrn;obtain⟨d1,d2⟩:=dup_not hdq;obtain⟨α',F⟩:=hdPack_facts hI r q hk2 h3 d2;have hhead:∀t,hdHeap ((s, .rowz s2 l mine k)::r) (xs,q.x) t=if t=l then(0,ao0 mine k xs)else hdHeap r q.x t:=by
    intro t;simp only[hdHeap,beq_iff]
    by_cases ht:t=l<;>simp [ht]
   have hrest:∀ {H'':Nat->Nat×AO} {α'':Nat->CO},(∀t∈l::q.kept,H'' t=hdHeap ((s, .rowz s2 l mine k)::r) (xs,q.x) t/\α'' t=(if t=l then co else α' t))->∀t∈q.kept,H'' t=hdHeap r q.x t/\α'' t=α' t:=by
    intro H'' α'' hH t ht;obtain⟨e1,e2⟩:=hH t (by simp [ht]);have t1:¬t=l:=fun e=>d1 (e▸ht)
    rw[hhead,if_neg t1]at e1;simp only[t1,if_false]at e2;exact⟨e1,e2⟩
   refine⟨fun t=>if t=l then co else α' t,?_,?_,F.used,?_⟩
   ·intro t ht;simp at ht;rw[hhead,if_neg ht.1];exact F.no t ht.2
   ·intro t ht;rw[hhead]
    by_cases ht1:t=l
    ·subst ht1;simp only[if_true];exact⟨hf2,fun hm hf=>hm2 hm hf,trivial,fun M' Mb' H'' α'' hM _=>ho2 M' hM.1 Mb' H'' α'',fun hm=>hfrn hm⟩
    ·simp at ht;obtain⟨k1,k2,k3,k4,k5⟩:=F.kept t (ht.resolve_left ht1);simp only[ht1,if_false];exact⟨k1,k2,k3,fun M' Mb' H'' α'' hM hH=>k4 M' Mb' H'' α'' hM (hrest hH),k5⟩
   ·intro s' M' Mb' H'' α'' hM hH;simp only[hdEnv,beq_iff]
    by_cases hs:s'=s
    ·subst hs;simp only[decide_true,cond_true];obtain⟨e1,e2⟩:=hH l (by simp);rw[hhead,if_pos rfl]at e1;simp only[if_true]at e2;rw[hval];refine vr_c0 ⟨⟨Nat.zero_le _,fun _=> ?_⟩,hone⟩;rw[e1,e2];exact hra
    ·by_cases hs2:s'=s2
     ·subst hs2;simp only[hs,decide_true,cond_true,decide_false,cond_false];obtain⟨e1,e2⟩:=hH l (by simp);rw[hhead,if_pos rfl]at e1;simp only[if_true]at e2;rw[hval2];refine vr_c0 ⟨⟨Nat.zero_le _,fun _=> ?_⟩,hone2⟩;rw[e1,e2];exact hra2
     ·simp only[hs,hs2,decide_false,cond_false];exact F.env s' M' Mb' H'' α'' hM (hrest hH)
  split at hp
  case h_2=>exact(fail_ev hp).elim
  case h_1 l' g vw he=>
   simp only[Cm.ev]at hp;split at hp
   case h_2=>exact(fail_ev hp).elim
   rename_i l2 g2 vw2 he2;split at hp
   case isFalse=>exact(fail_ev hp).elim
   rename_i hll;obtain⟨hll,q1,q2⟩:=hll;subst hll;obtain⟨q1,q2⟩:=And.intro q1.symm q2.symm;subst q1 q2;simp only[Cm.ev]at hp;split at hp
   case isFalse=>exact(fail_ev hp).elim
   rename_i hg;split at hp
   case h_2=>exact(fail_ev hp).elim
   rename_i mine' k' rg hdr inn hob;split at hp
   case isFalse=>exact(fail_ev hp).elim
   rename_i hmv;obtain⟨rfl,hv0,hv02⟩:=hmv;split at hp
   case isFalse=>exact(fail_ev hp).elim
   rename_i hkk;subst hkk;obtain⟨hvl,hp⟩:=wide_ev (fun e=>by rw[e];rfl) hp;obtain⟨hvl2,hp⟩:=wide_ev (fun e=>by rw[e];rfl) hp;simp only[Cm.ev]at hp;split at hp
   ·cases hp
   rename_i hdup;have hdup:dup (hdr.map fun p=>p.1)=false:=by simpa using hdup
   obtain⟨q,h3,h4⟩:=bind_ev hp;have:=ret_ev h4;subst this;simp only[castL_rfl];rw[he]at hv;have hr0:=vr_c0_inv hv;have hra:=hr0.1.2 hg;rw[he2]at hv2;have hr2:=vr_c0_inv hv2;have hra2:=hr2.1.2 hg;obtain⟨A,cap,real,ms,hα,R⟩:=rows_co hI hob;rw[hob,hα]at hra hra2;have hview:=fun(M':Nat->Nat->Prop) (hM':∀b o,M' b o->MM E.M0 S.heap α b o)=>rows_view R (len:=hdr.length) (Nat.le_refl _) (by rw[List.take_length];exact hdup) mine' cap R.len (Nat.le_refl _) R.full R.mcap (M':=M') hM'
   rw[List.take_length]at hview;have hnl:(nrm hdr inn).length=hdr.length:=nrm_length _ _;refine key (nrm hdr inn) q (.rows A cap real (viewMs hdr ms hdr.length)) _ _ h3 hd rfl hr0.2 rfl hr2.2 (fun b' i' hf=> ?_) (fun hm _=>by rw[hob]at hm;exact hm) (fun M' hM' Mb' H'' α''=>(hview M' hM').1) ?_ ?_ (fun hm=> ?_)
   ·rw[hob,hα];rcases hf with hf|⟨m,hm,hs⟩
    ·exact .inl hf
    ·exact .inr ⟨m,(hview _ (fun _ _ h=>h)).2 m hm,hs⟩
   ·obtain⟨g1,g3⟩:=hra;refine⟨by show 0+vlen (hd0 _) none<=(hd0 _).length;simp [vlen],?_⟩;have hl:vlen (hd0 (nrm hdr inn)) none=vlen hdr vw:=by rw[hvl];show(hd0 (nrm hdr inn)).length=hdr.length;rw[hd0_length,hnl]
    show SlAt A (voff none) (vlen (hd0 (nrm hdr inn)) none) (real - voff none) _;rw[hl];rw[hv0]at g3;exact g3
   ·obtain⟨g1,g3⟩:=hra2;refine⟨by show 0+vlen (hd0 _) none<=(hd0 _).length;simp [vlen],?_⟩;have hl:vlen (hd0 (nrm hdr inn)) none=vlen hdr vw2:=by rw[hvl2];show(hd0 (nrm hdr inn)).length=hdr.length;rw[hd0_length,hnl]
    show SlAt A (voff none) (vlen (hd0 (nrm hdr inn)) none) (real - voff none) _;rw[hl];rw[hv02]at g3;exact g3
   ·have hfr:=hI.frn l' (by rw[hob];exact hm);rw[hα]at hfr;exact Frn.trans (b:= .rows A cap real ms) ⟨ms,rfl,(hview _ (fun _ _ h=>h)).2⟩ hfr
 |(s, .own l mine k)::r,p,hk,hp,hd=>by
  simp only[hdPack,Cm.ev]at hp;split at hp
  case h_3=>exact(fail_ev hp).elim
  case h_1 l' g vw he=>
   split at hp
   case isFalse=>exact(fail_ev hp).elim
   rename_i hll;subst hll;simp only[Cm.ev]at hp;split at hp
   case isFalse=>exact(fail_ev hp).elim
   rename_i hg;split at hp
   case h_2=>exact(fail_ev hp).elim
   rename_i mine' k' full hob;split at hp
   case isFalse=>exact(fail_ev hp).elim
   rename_i hmv;obtain⟨rfl,hvw⟩:=hmv;split at hp
   case isFalse=>exact(fail_ev hp).elim
   rename_i hkk;subst hkk;obtain⟨q,h3,h4⟩:=bind_ev hp;have:=ret_ev h4;subst this;simp only[castL_rfl];obtain⟨hk1,hk2⟩:=okHd_cons hk;obtain⟨d1,d2⟩:=dup_not hd;obtain⟨α',F⟩:=hdPack_facts hI r q hk2 h3 d2;have hv:=hI.slt s;rw[he]at hv;have hr0:=vr_c0_inv hv;have hpr:=hr0.1.2 hg;have hor:=hI.obj l';obtain⟨A,cap,real,hα⟩:=arr_co hI hob;rw[hob,hα]at hpr hor;obtain⟨g1,A',g2,g3,g4⟩:=hpr;obtain⟨c1,c2,c3,c4,c5⟩:=hor;have hlen:=look_length full vw g1;have hhead:∀t,hdHeap ((s, .own l' mine' k')::r) (look full vw,q.x) t=if t=l' then(0, .arr mine' false k' (look full vw))else hdHeap r q.x t:=by
    intro t;simp only[hdHeap,beq_iff]
    by_cases ht:t=l'<;>simp [ht]
   let co:CO:= .arr (if real - voff vw=0 then none else A.map fun p=>(p.1,p.2+voff vw*k'.sz)) (if real - voff vw=0 then 0 else cap - voff vw) (real - voff vw)
   have hco:∀b o,(if real - voff vw=0 then none else A.map fun p=>(p.1,p.2+voff vw*k'.sz))=some (b,o)->real - voff vw≠0/\∃oo,A=some (b,oo)/\o=oo+voff vw*k'.sz:=by
    intro b o hq;split at hq
    ·cases hq
    ·rename_i hne;cases A with
     |none=>cases hq
     |some p=>
      simp at hq;obtain⟨rfl,rfl⟩:=hq;exact⟨hne,p.2,rfl,rfl⟩
   have hfp:∀b o,fp (.arr mine' false k' (look full vw)) co b o->fp (S.heap l').2 (α l') b o:=by
    intro b o hf;simp only[co]at hf;cases hq:(if real - voff vw=0 then none else A.map fun p=>(p.1,p.2+voff vw*k'.sz))with
    |none=>rw[hq]at hf;exact hf.elim
    |some p=>
     rw[hq]at hf;obtain⟨hne,oo,hA,ho⟩:=hco p.1 p.2 hq;obtain⟨rfl,f1,f2⟩:=hf;rw[hob,hα,hA];rw[if_neg hne]at f2;rw[Nat.sub_mul]at f2
     by_cases hle:voff vw<=cap
     ·have:voff vw*k'.sz<=cap*k'.sz:=Nat.mul_le_mul_right _ hle;exact⟨rfl,by omega,by omega⟩
     ·have:cap*k'.sz<=voff vw*k'.sz:=Nat.mul_le_mul_right _ (by omega);omega
   refine⟨fun t=>if t=l' then co else α' t,?_,?_,?_,?_⟩
   ·intro t ht;simp at ht;rw[hhead,if_neg ht.1];exact F.no t ht.2
   ·intro t ht;rw[hhead]
    by_cases htl:t=l'
    ·subst htl;simp only[if_true];refine⟨hfp,fun hm _=>by rw[hob]at hm;exact hm,trivial,fun M' Mb' H'' α'' hM _=> ?_,fun hm=> ?_⟩
     case refine_2=>
      have hm':mine'=false:=hm;have hvn:vw=none:=by
       rcases hvw with hvw|hvw
       ·rw[hm']at hvw;cases hvw
       ·simpa using hvw
      have hfr:=hI.frn t (by rw[hob];exact hm);rw[hα]at hfr;have hfr:CO.arr A cap real=E.γ t:=hfr;show co=E.γ t;rw[<-hfr];subst hvn;simp only[co,voff,Nat.sub_zero,Nat.zero_mul,Nat.add_zero]
      by_cases h0:real=0
      ·subst h0;have:=E.hγ t A cap hfr.symm;subst this;have:cap=0:=by omega
       simp [this]
      ·simp only[h0,if_false];cases A<;>rfl
     have c1a:=c1.1;refine⟨⟨?_,fun hm=> ?_⟩,?_,?_,?_,fun b o hA=> ?_⟩
     ·rw[hlen];split
      ·rename_i h0;omega
      ·omega
     ·have hvn:vw=none:=by
       rcases hvw with hvw|hvw
       ·rw[hm]at hvw;cases hvw
       ·simpa using hvw
      have hcl:=c1.2 hm;subst hvn;show full.length=if real - 0=0 then 0 else cap - 0
      by_cases h0:real - 0=0
      ·rw[if_pos h0];omega
      ·rw[if_neg h0];omega
     ·split
      ·omega
      ·omega
     ·intro hm;have:=c3 hm;split
      ·rename_i h0;exact h0.symm
      ·omega
     ·intro hA
      by_cases h0:real - voff vw=0
      ·exact h0
      ·obtain⟨b,oo,hA2,_⟩:=g4 (by omega);rw[if_neg h0,hA2]at hA;cases hA
     ·obtain⟨hne,oo,hA2,ho⟩:=hco b o hA;subst ho;obtain⟨c6,c7⟩:=c5 b oo hA2;refine⟨fun i x hx=> ?_,fun _ j hj=> ?_⟩
      ·obtain⟨hx1,hx2⟩:=look_get full vw hx;obtain⟨es,e1,e2,_⟩:=c6 _ x hx1;refine⟨es,e1.mono (Keeps.less hM.1),?_,fun hz=>by cases hz⟩;rwa [Nat.add_mul,<-Nat.add_assoc]at e2
      ·rw[if_neg hne,Nat.sub_mul]at hj
       by_cases hle:voff vw<=cap
       ·have:voff vw*k'.sz<=cap*k'.sz:=Nat.mul_le_mul_right _ hle;have:=c7 rfl (voff vw*k'.sz+j) (by omega);rwa [<-Nat.add_assoc]at this
       ·have:cap*k'.sz<=voff vw*k'.sz:=Nat.mul_le_mul_right _ (by omega);omega
    ·simp at ht;obtain⟨k1,k2,k3,k4,k5⟩:=F.kept t (ht.resolve_left htl);simp only[htl,if_false];exact⟨k1,k2,k3,fun M' Mb' H'' α'' hM hH=>k4 M' Mb' H'' α'' hM (fun t ht=>by
      obtain⟨e1,e2⟩:=hH t (by simp [ht]);have htl:¬t=l':=fun e=>d1 (e▸ht)
      rw[hhead,if_neg htl]at e1;simp only[htl,if_false]at e2;exact⟨e1,e2⟩),k5⟩
   ·exact F.used
   ·intro s' M' Mb' H'' α'' hM hH;simp only[hdEnv,beq_iff]
    by_cases hs:s'=s
    ·subst hs;simp only[decide_true,cond_true];obtain⟨e1,e2⟩:=hH l' (by simp);rw[hhead,if_pos rfl]at e1;simp only[if_true]at e2;refine vr_c0 ⟨⟨Nat.zero_le _,fun _=> ?_⟩,hr0.2⟩;rw[e1,e2];rw[g2];refine refAt_none ⟨A',by rw[hlen],by rw[hlen];exact g3,fun hc=> ?_⟩;obtain⟨b,oo,hA,hA'⟩:=g4 hc;rw[if_neg (by omega),hA];exact⟨b,oo+voff vw*k'.sz,rfl,by rw[hA'];rfl⟩
    ·simp only[hs,decide_false,cond_false];refine F.env s' M' Mb' H'' α'' hM (fun t ht=> ?_);obtain⟨e1,e2⟩:=hH t (by simp [ht]);have htl:¬t=l':=fun e=>d1 (e▸ht)
     rw[hhead,if_neg htl]at e1;simp only[htl,if_false]at e2;exact⟨e1,e2⟩
  case h_2 he=>
   split at hp
   case isFalse=>exact(fail_ev hp).elim
   rename_i hm;subst hm;obtain⟨q,h3,h4⟩:=bind_ev hp;have:=ret_ev h4;subst this;obtain⟨hk1,hk2⟩:=okHd_cons hk;obtain⟨d1,d2⟩:=dup_not hd;obtain⟨α',F⟩:=hdPack_facts hI r q hk2 h3 d2;have hv:=hI.slt s;rw[he]at hv;have hr0:a.tmps.getD s undef= .slice none 0 0:=vr_c0_inv hv;have hhead:∀t,hdHeap ((s, .own l true k)::r) (([]:List k.Ty),q.x) t=if t=l then(0, .arr true false k [])else hdHeap r q.x t:=by
    intro t;simp only[hdHeap,beq_iff]
    by_cases ht:t=l<;>simp [ht]
   refine⟨fun t=>if t=l then .arr none 0 0 else α' t,?_,?_,F.used,?_⟩
   ·intro t ht;simp at ht;rw[hhead,if_neg ht.1];exact F.no t ht.2
   ·intro t ht;rw[hhead]
    by_cases htl:t=l
    ·subst htl;simp only[if_true];exact⟨fun b o hf=>hf.elim,fun _ hf=>by obtain⟨b,o,hf⟩:=hf;exact hf.elim,trivial,fun M' Mb' H'' α'' hM _=>⟨⟨Nat.le_refl _,fun _=>rfl⟩,Nat.le_refl _,fun _=>rfl,fun _=>rfl,fun b o hA=>by cases hA⟩,fun hm=>by cases hm⟩
    ·simp at ht;obtain⟨k1,k2,k3,k4,k5⟩:=F.kept t (ht.resolve_left htl);simp only[htl,if_false];exact⟨k1,k2,k3,fun M' Mb' H'' α'' hM hH=>k4 M' Mb' H'' α'' hM (fun t ht=>by
      obtain⟨e1,e2⟩:=hH t (by simp [ht]);have htl:¬t=l:=fun e=>d1 (e▸ht)
      rw[hhead,if_neg htl]at e1;simp only[htl,if_false]at e2;exact⟨e1,e2⟩),k5⟩
   ·intro s' M' Mb' H'' α'' hM hH;simp only[hdEnv,beq_iff]
    by_cases hs:s'=s
    ·subst hs;simp only[decide_true,cond_true];obtain⟨e1,e2⟩:=hH l (by simp);rw[hhead,if_pos rfl]at e1;simp only[if_true]at e2;rw[hr0];refine vr_c0 ⟨⟨Nat.zero_le _,fun _=> ?_⟩,rfl⟩;rw[e1,e2];exact refAt_none ⟨none,rfl,Nat.le_refl _,fun hc=>by cases hc⟩
    ·simp only[hs,decide_false,cond_false];refine F.env s' M' Mb' H'' α'' hM (fun t ht=> ?_);obtain⟨e1,e2⟩:=hH t (by simp [ht]);have htl:¬t=l:=fun e=>d1 (e▸ht)
     rw[hhead,if_neg htl]at e1;simp only[htl,if_false]at e2;exact⟨e1,e2⟩
theorem head_inv (hI:Inv E S α a w) {h:Hd} {p:Hp (HTy h)} (hk:okHd h=true) (hp:(hdPack h).ev S=some p) (hd:dup p.kept=false) (hc:clash p.used p.kept=false):∃α',Inv E (hdSt h p.x) α' a w:=by
 obtain⟨α',F⟩:=hdPack_facts hI h p hk hp hd;have hfp:∀l b o,fp (hdHeap h p.x l).2 (α' l) b o->l∈p.kept/\fp (S.heap l).2 (α l) b o:=by
  intro l b o hf
  by_cases hl:l∈p.kept
  ·exact⟨hl,(F.kept l hl).1 b o hf⟩
  ·rw[F.no l hl]at hf;cases hα:α' l<;>rw[hα]at hf<;>exact hf.elim
 have hM:HdM E S α p.used (MM E.M0 (hdHeap h p.x) α') (MM E.W0 (hdHeap h p.x) α'):=by
  refine⟨fun b o hu=> ?_,fun b o hu=> ?_,fun l hl b o hu hf=> ?_⟩
  ·rcases hu with hu|⟨l,hf⟩
   ·exact .inl hu
   ·exact .inr ⟨l,(hfp l b o hf).2⟩
  ·rcases hu with hu|⟨l,hf⟩
   ·exact .inl hu
   ·exact .inr ⟨l,(hfp l b o hf).2⟩
  ·obtain⟨k,full,ho⟩:=F.used l hl;rcases hu with hu|⟨l',hf'⟩
   ·have:=mine_new hI hf (by rw[ho];rfl);have:=E.hM b o hu;omega
   ·obtain⟨h1,h2⟩:=hfp l' b o hf';exact hI.dsj l l' b o (fun e=>clash_false hc l hl (e▸h1)) hf h2
 refine⟨α',hI.fr,?_,?_,?_,?_,hI.dfr,hI.siz,?_⟩
 ·intro l l' b o hne h1 h2;exact hI.dsj l l' b o hne (hfp l b o h1).2 (hfp l' b o h2).2
 ·intro l b o hf;obtain⟨h1,h2⟩:=hfp l b o hf;rcases hI.new l b o h2 with g|⟨g1,g2⟩
  ·exact .inl g
  ·exact .inr ⟨g1,(F.kept l h1).2.1 g2 ⟨b,o,hf⟩⟩
 ·intro l
  by_cases hl:l∈p.kept
  ·exact(F.kept l hl).2.2.2.1 _ _ _ _ hM (fun l hl=>⟨rfl,rfl⟩)
  ·show OR w _ _ _ _ (hdHeap h p.x l).2 (α' l);rw[F.no l hl];cases α' l<;>trivial
 ·intro s;exact F.env s _ _ _ _ hM (fun l hl=>⟨rfl,rfl⟩)
 ·intro l hm
  by_cases hl:l∈p.kept
  ·exact(F.kept l hl).2.2.2.2 hm
  ·change isMine (hdHeap h p.x l).2=false at hm
   rw[F.no l hl]at hm;cases hm
end
end Go.Cm
