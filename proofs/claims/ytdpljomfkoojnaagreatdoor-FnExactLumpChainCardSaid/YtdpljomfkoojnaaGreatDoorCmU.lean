import Derived.Test.YtdpljomfkoojnaaGreatDoorCmT
set_option linter.unusedVariables false
namespace Go.Cm
def shiftCO (sz:Nat) (c:CO) (off len:Nat):CO:=match c with
 | .arr A _ real=> .arr (if real - off=0 then none else A.map fun p=>(p.1,p.2+off*sz)) len (real - off)
 |c=>c
def memCO (c:CO) (q:Nat):CO:=match c with
 | .rows _ _ _ ms=>(match ms[q]? with|some m=> .arr m.1 m.2.1 m.2.2|none=> .no)
 |_=> .no
def viewMs (hdr:List (Nat×Nat)) (ms:List (Option (Nat×Nat)×Nat×Nat)) (len:Nat):List (Option (Nat×Nat)×Nat×Nat):=(hdr.take len).map fun p=>ms.getD p.1 (none,0,0)
def viewCO (o:AO) (c:CO) (len:Nat):CO:=match o,c with
 | .rows _ _ _ hdr _, .rows A _ real ms=> .rows A len real (viewMs hdr ms len)
 |_,c=>c
def entCO (S:St) (α:Nat->CO) (k:Kd):Mu->CO
 | .arr l off len=>shiftCO k.sz (α l) off len
 | .row l q off len=>shiftCO k.sz (memCO (α l) q) off len
 | .rows l len _=>viewCO (S.heap l).2 (α l) len
def gam (S:St) (α:Nat->CO):(i:Nat)->List PK->List Mu->Nat->CO
 |i, .mu k::ps,e::ls,j=>if j=i then entCO S α k e else gam S α (i+1) ps ls j
 |i, .mr k::ps,e::ls,j=>if j=i then entCO S α k e else gam S α (i+1) ps ls j
 |_, .mu _::_,[],_=> .no
 |_, .mr _::_,[],_=> .no
 |i, .ro _::ps,ls,j=>gam S α (i+1) ps ls j
 |i, .bo _::ps,ls,j=>gam S α (i+1) ps ls j
 |i, .pm _::ps,ls,j=>gam S α (i+1) ps ls j
 |i, .fn _::ps,ls,j=>gam S α (i+1) ps ls j
 |_,[],_,_=> .no
def EntA (S:St) (α:Nat->CO) (k:Kd) (x:List k.Ty) (c:CO):Mu->Prop
 | .arr l off len=>∃mine full A cap real,(S.heap l).2= .arr mine false k full/\α l= .arr A cap real/\off+len<=full.length/\x.length=len/\c=shiftCO k.sz (α l) off len
 | .row l q off len=>∃mine rg hdr inn A cap real ms m xs,(S.heap l).2= .rows mine k rg hdr inn/\α l= .rows A cap real ms/\ms[q]? =some m/\inn[q]? =some xs/\off+len<=xs.length/\x.length=len/\c=shiftCO k.sz (.arr m.1 m.2.1 m.2.2) off len
 | .rows _ _ _=>False
def EntR (S:St) (α:Nat->CO) (k:Kd) (x:List (List k.Ty×Nat)) (c:CO):Mu->Prop
 | .rows l len all=>∃mine rg hdr inn A cap real ms,(S.heap l).2= .rows mine k rg hdr inn/\α l= .rows A cap real ms/\len<=hdr.length/\(all=true->len=hdr.length)/\(mine=false->all=true)/\dup ((hdr.take len).map fun p=>p.1)=false/\x=nrm (hdr.take len) inn/\
   c= .rows A len real (viewMs hdr ms len)
 |_=>False
def MuOk (S:St) (α γ:Nat->CO):(i:Nat)->(ps:List PK)->PTy ps->List Mu->Prop
 |_,[],_,ls=>ls=[]
 |i, .mu k::ps,x,ls=>∃e ls',ls=e::ls'/\EntA S α k x.1 (γ i) e/\MuOk S α γ (i+1) ps x.2 ls'
 |i, .mr k::ps,x,ls=>∃e ls',ls=e::ls'/\EntR S α k x.1 (γ i) e/\MuOk S α γ (i+1) ps x.2 ls'
 |i, .ro _::ps,x,ls=>MuOk S α γ (i+1) ps x.2 ls
 |i, .bo _::ps,x,ls=>MuOk S α γ (i+1) ps x.2 ls
 |i, .pm _::ps,x,ls=>MuOk S α γ (i+1) ps x.2 ls
 |i, .fn _::ps,x,ls=>MuOk S α γ (i+1) ps x.2 ls
theorem fnOf_eq {v:AV} {f:Nat} (h:fnOf v=some f):v= .one false [.v (.func (.func f) #[] #[])]:=by
 unfold fnOf at h;split at h
 ·rename_i g x y;split at h
  ·rename_i hc;obtain⟨h1,h2⟩:=hc;cases h;have e1:x= #[]:=Array.eq_empty_of_size_eq_zero h1;have e2:y= #[]:=Array.eq_empty_of_size_eq_zero h2;rw[e1,e2]
  ·cases h
 ·cases h
section
variable {cx:Cx} {E:En} {S:St} {α:Nat->CO} {a:Act} {w:World} {o:Oper} {us:List Up}
theorem dup_get {xs:List Nat} (h:dup xs=false) {i j:Nat} {x:Nat} (hi:xs[i]? =some x) (hj:xs[j]? =some x):i=j:=by
 induction xs generalizing i j with
 |nil=>simp at hi
 |cons y xs ih=>
  simp only[dup,Bool.or_eq_false_iff]at h;have hn:∀q:Nat,xs[q]? =some y->False:=by
   intro q hq;have:=List.any_eq_false.1 h.1 y (List.mem_of_getElem? hq);rw[beq_iff]at this;simp at this
  cases i with
  |zero=>
   simp at hi;subst hi;cases j with
   |zero=>rfl
   |succ j=>exact(hn j (by simpa using hj)).elim
  |succ i=>
   cases j with
   |zero=>
    simp at hj;subst hj;exact(hn i (by simpa using hi)).elim
   |succ j=>
    have:=ih (i:=i) (j:=j) h.2 (by simpa using hi) (by simpa using hj);omega
theorem rows_view {w:World} {M:Nat->Nat->Prop} {mine:Bool} {k:Kd} {hdr:List (Nat×Nat)} {inn:List (List k.Ty)} {A:Option (Nat×Nat)} {cap real:Nat} {ms:List (Option (Nat×Nat)×Nat×Nat)} (R:RowsOk w M mine k hdr inn A cap real ms)
  {len:Nat} (hl:len<=hdr.length) (hd:dup ((hdr.take len).map fun p=>p.1)=false) (mine':Bool) (cap':Nat) (hc1:len<=cap') (hc2:cap'<=cap) (hc3:mine'=false->len=cap') (hc4:mine'=true->cap'=real) {M':Nat->Nat->Prop} (hM:∀b o,M' b o->M b o):
  RowsOk w M' mine' k (hd0 (nrm (hdr.take len) inn)) (in0 (nrm (hdr.take len) inn)) A cap' real (viewMs hdr ms len)/\∀m∈viewMs hdr ms len,m∈ms:=by
 have hnl:(nrm (hdr.take len) inn).length=len:=by rw[nrm_length];simp;omega
 have hvl:(viewMs hdr ms len).length=len:=by simp [viewMs];omega
 have hget:∀(i:Nat) (m:Option (Nat×Nat)×Nat×Nat),(viewMs hdr ms len)[i]? =some m->∃p,i<len/\hdr[i]? =some p/\ms[p.1]? =some m/\p.2<=m.2.1/\p.1<inn.length:=by
  intro i m hm;have hi:i<len:=by rw[<-hvl];exact(List.getElem?_eq_some_iff.1 hm).1
  have hih:i<hdr.length:=by omega
  have hp:hdr[i]? =some hdr[i]:=by simp [hih]
  obtain⟨m',h1,h2⟩:=R.hd i _ hp;have:(viewMs hdr ms len)[i]? =some (ms.getD hdr[i].1 (none,0,0)):=by
   simp only[viewMs,List.getElem?_map,List.getElem?_take,hi,if_true,hp,Option.map_some]
  rw[this]at hm;have hgd:ms.getD hdr[i].1 (none,0,0)=m':=by simp [h1]
  rw[hgd]at hm;cases hm;exact⟨hdr[i],hi,hp,h1,h2,by rw[<-R.ml];exact(List.getElem?_eq_some_iff.1 h1).1⟩
 have hnr:∀(i:Nat) (p:Nat×Nat),i<len->hdr[i]? =some p->(nrm (hdr.take len) inn)[i]? =some (inn.getD p.1 [],p.2):=by
  intro i p hi hp;simp only[nrm,List.getElem?_map,List.getElem?_take,hi,if_true,hp,Option.map_some]
 have hmem:∀m∈viewMs hdr ms len,m∈ms:=by
  intro m hm;obtain⟨i,hi,rfl⟩:=List.mem_iff_getElem.1 hm;obtain⟨p,_,_,h3,_⟩:=hget i _ (by simp:(viewMs hdr ms len)[i]? =some (viewMs hdr ms len)[i]);exact List.mem_of_getElem? h3
 refine⟨⟨by rw[hd0_length,hnl];exact hc1,fun hm=>by rw[hd0_length,hnl];exact hc3 hm,Nat.le_trans hc2 R.cr,hc4,R.non,by rw[hvl,in0_length,hnl],fun i p hp=> ?_,fun b o hA=> ?_,fun j xs m hx hm=> ?_,fun j j' m m' b o hne hm hm' hs hs'=> ?_,fun m hm b o oo hs hA w1 w2=>R.dO m (hmem m hm) b o oo hs hA w1 (by omega)⟩,hmem⟩
 ·obtain⟨x,hx,rfl⟩:=hd0_get _ hp;have hi:i<len:=by rw[<-hnl];exact(List.getElem?_eq_some_iff.1 hx).1
  have hiv:i<(viewMs hdr ms len).length:=by rw[hvl];exact hi
  refine⟨(viewMs hdr ms len)[i],by simp [hiv],?_⟩;obtain⟨p,_,h2,h3,h4,_⟩:=hget i _ (by simp [hiv]:(viewMs hdr ms len)[i]? =some (viewMs hdr ms len)[i]);rw[hnr i p hi h2]at hx;cases hx;exact h4
 ·obtain⟨c1,c2⟩:=R.cel b o hA;refine⟨fun i p m hp hm=> ?_,fun j hj=>c2 j (by omega)⟩;obtain⟨x,hx,rfl⟩:=hd0_get _ hp;obtain⟨p,h1,h2,h3,_⟩:=hget i m hm;rw[hnr i p h1 h2]at hx;cases hx;exact c1 i p m h2 h3
 ·obtain⟨p,h1,h2,h3,h4,h5⟩:=hget j m hm;rw[in0_get,hnr j p h1 h2]at hx;simp only[Option.map_some,Option.some.injEq]at hx;have hxi:inn[p.1]? =some xs:=by rw[<-hx];simp [h5]
  exact(R.mem p.1 xs m hxi h3).mono (Keeps.less hM) (fun b i v _ hc=>⟨hc,rfl⟩)
 ·obtain⟨p,h1,h2,h3,_⟩:=hget j m hm;obtain⟨p',h1',h2',h3',_⟩:=hget j' m' hm';refine R.dj p.1 p'.1 m m' b o (fun e=>hne ?_) h3 h3' hs hs';refine dup_get hd (x:=p.1) ?_ ?_
  ·simp [h1,h2]
  ·simp [h1',h2',e]
theorem take_look {β:Type} {xs:List β} {vw:Option (Nat×Nat)} (h:voff vw=0):look xs vw=xs.take (vlen xs vw):=by
 rw[look_eq,h,List.drop_zero]
theorem both_ev {γ:Type} {S:St} {f:Option (Nat×Nat)->Nat} {n:Nat} {vw:Option (Nat×Nat)} {m:Bool->Cm γ} {r:γ} (h0:vw=none->f vw=n) (h:(both f n vw m).ev S=some r):∃all,(m all).ev S=some r/\(all=true->f vw=n)/\(vw=none->all=true):=by
 cases vw with
 |none=>exact⟨true,h,fun _=>h0 rfl,fun _=>rfl⟩
 |some p=>
  simp only[both,Cm.ev]at h;split at h
  ·rename_i hc;exact⟨true,h,fun _=>of_decide_eq_true hc,fun _=>rfl⟩
  ·exact⟨false,h,fun q=>(by cases q),fun q=>(by cases q)⟩
theorem passM_ev (h:Inv E S α a w) {k:Kd} {v:AV} {u:Value} (hv:VR (R0 E S.heap α w) v u) {β:Type} {κ:k.Ty->List Nat->Cm β} {r:β} (hs:(passM k v κ).ev S=some r):
  ∃x bl,(κ x bl).ev S=some r/\∀(M1 W1:Nat->Nat->Prop),(∀b o,M1 b o->MM E.M0 S.heap α b o)->(∀b o,W1 b o->MM E.W0 S.heap α b o)->(∀l∈bl,∀b o,W1 b o->¬fp (S.heap l).2 (α l) b o)->
   ∃b o es,u= .pointer (some ⟨b,o,none⟩)/\RdC w M1 k es x/\Cells w W1 b o es:=by
 unfold passM at hs;split at hs
 ·rename_i k' x;split at hs
  case isFalse=>exact(fail_ev hs).elim
  rename_i hk;subst hk;refine⟨_,_,hs,fun M1 W1 m1 m3 _=> ?_⟩;obtain⟨b,o,es,e1,e2,e3⟩:=vr_c0_inv hv;exact⟨b,o,es,e1,e2.mono (Keeps.less m1),e3.mono (Keeps.less m3)⟩
 ·rename_i k' x;split at hs
  case isFalse=>exact(fail_ev hs).elim
  rename_i hk;subst hk;refine⟨_,_,hs,fun M1 W1 m1 m3 _=> ?_⟩;obtain⟨b,o,es,e1,e2,e3⟩:=vr_c0_inv hv;simp at e1;exact⟨b,o,es,e1,e2.mono (Keeps.less m1),e3.mono (Keeps.less fun b o hu=>MM.le E.hW (m3 b o hu))⟩
 ·rename_i l g j;simp only[Cm.ev]at hs;split at hs
  case isFalse=>exact(fail_ev hs).elim
  rename_i hg;split at hs
  case h_2=>exact(fail_ev hs).elim
  rename_i cs ho;obtain⟨p,h1,h2⟩:=bind_ev hs;split at h2
  case isFalse=>exact(fail_ev h2).elim
  rename_i hfr;rw[List.isEmpty_iff]at hfr;have hc:=vr_c0_inv hv;have hor:=h.obj l;have hp:=hc.1.2 hg;rw[ho]at hor hp;cases hα:α l with
  |vars b=>
   rw[hα]at hor hp;obtain⟨vs,w1,w2⟩:=hor;obtain⟨⟨u1,u2,r1,r2,r3,r4⟩,r5,r6⟩:=pack_sound h k false _ _ p h1 (w1.drop j);refine⟨_,_,h2,fun M1 W1 m1 m3 m4=>⟨b,j,u1,hp,r4 M1 m1 (fun l hl=> ?_),fun i v hi=> ?_⟩⟩
   ·rw[hfr,r6 rfl]at hl;simp at hl
   ·have hi':vs[j+i]? =some v:=by
     have:(vs.drop j)[i]? =some v:=by
      rw[r1,List.getElem?_append_left (List.getElem?_eq_some_iff.1 hi).1];exact hi
     simpa using this
    refine⟨(w2 (j+i) v hi').1,fun hw=>m4 l (by simp) b (j+i) hw ?_⟩;rw[ho,hα];refine⟨rfl,?_⟩;rw[w1.length];exact(List.getElem?_eq_some_iff.1 hi').1
  |no=>rw[hα]at hor;exact hor.elim
  |rows A c r ms=>rw[hα]at hor;exact hor.elim
  |arr A c r=>rw[hα]at hor;exact hor.elim
 ·exact(fail_ev hs).elim
theorem pass_sound (h:Inv E S α a w):∀(ps:List PK) (i:Nat) (vs:List AV) (us:List Value) (q:Pa (PTy ps)) (γ:Nat->CO),(pass ps vs).ev S=some q->fits ps vs=true->Al (VR (R0 E S.heap α w)) vs us->
  (∀j,i<=j->γ j=gam S α i ps q.mu j)->
  MuOk S α γ i ps q.x q.mu/\(∀l∈q.fr,∃k full,(S.heap l).2= .arr true false k full)/\
  ∀(M1 W1:Nat->Nat->Prop),(∀b o,M1 b o->MM E.M0 S.heap α b o)->(∀l∈q.fr,∀b o,M1 b o->¬fp (S.heap l).2 (α l) b o)->
   (∀b o,W1 b o->MM E.W0 S.heap α b o)->(∀l,l∈q.fr\/l∈q.bo->∀b o,W1 b o->¬fp (S.heap l).2 (α l) b o)->(∀j b o,muFp γ i ps j b o->W1 b o)->(∀l∈q.mu.map Mu.ob,∀l'∈q.fr,l≠l')->
   ArgsRel w M1 W1 γ i ps q.x us:=by
 intro ps
 induction ps with
 |nil=>
  intro i vs us q γ hp _ hv _;cases vs with
  |nil=>
   rw[<-ret_ev hp];cases hv;exact⟨rfl,by simp,fun _ _ _ _ _ _ _ _=>rfl⟩
  |cons v vs=>exact(fail_ev hp).elim
 |cons p ps ih=>
  intro i vs us q γ hp hfit hv hγ;cases vs with
  |nil=>cases p<;>exact(fail_ev hp).elim
  |cons v vs=>
   cases hv with
   | @cons _ u _ us' hv0 hv1=>
   cases p with
   |ro k=>
    cases v with
    |tup xs=>exact(fail_ev hp).elim
    |one ag cs=>
     simp only[pass]at hp;split at hp
     case isFalse=>exact(fail_ev hp).elim
     rename_i hag;obtain⟨p1,h1,h2⟩:=bind_ev hp;split at h2
     case h_2=>exact(fail_ev h2).elim
     rename_i hrest;obtain⟨q2,h3,h4⟩:=bind_ev h2;have hq:=ret_ev h4;subst hq;obtain⟨ws,w1,w2,w3⟩:=hv0;obtain⟨⟨u1,u2,r1,r2,r3,r4⟩,r5,r6⟩:=pack_sound h k false _ _ p1 h1 w2;rw[hrest]at r3;cases r3;rw[List.append_nil]at r1;subst r1;obtain⟨s1,s2,s3⟩:=ih (i+1) vs us' q2 γ h3 (by simpa [fits]using hfit) hv1 (fun j hj=>by rw[hγ j (by omega)];rfl);refine⟨s1,fun l hl=> ?_,fun M1 W1 m1 m2 m3 m4 m5 m6=> ?_⟩
     ·rcases List.mem_append.1 hl with hl|hl
      ·exact r5 l hl
      ·exact s2 l hl
     ·refine⟨u,us',rfl,⟨_,by rw[<-hag];exact w1,r4 M1 m1 (fun l hl=> ?_)⟩,s3 M1 W1 m1 (fun l hl=>m2 l (by simp [hl])) m3 (fun l hl=>m4 l (by rcases hl with hl|hl<;>simp [hl])) m5 (fun l hl l' hl'=>m6 l hl l' (by simp [hl']))⟩;rcases hl with hl|hl
      ·exact m2 l (by simp [hl])
      ·rw[r6 rfl]at hl;simp at hl
   |bo k=>
    cases v with
    |tup xs=>exact(fail_ev hp).elim
    |one ag cs=>
     simp only[pass]at hp;split at hp
     case isFalse=>exact(fail_ev hp).elim
     rename_i hag;obtain⟨p1,h1,h2⟩:=bind_ev hp;split at h2
     case h_2=>exact(fail_ev h2).elim
     rename_i hrest;obtain⟨q2,h3,h4⟩:=bind_ev h2;have hq:=ret_ev h4;subst hq;obtain⟨ws,w1,w2,w3⟩:=hv0;obtain⟨⟨u1,u2,r1,r2,r3,r4⟩,r5,r6⟩:=pack_sound h k true _ _ p1 h1 w2;rw[hrest]at r3;cases r3;rw[List.append_nil]at r1;subst r1;obtain⟨s1,s2,s3⟩:=ih (i+1) vs us' q2 γ h3 (by simpa [fits]using hfit) hv1 (fun j hj=>by rw[hγ j (by omega)];rfl);refine⟨s1,fun l hl=> ?_,fun M1 W1 m1 m2 m3 m4 m5 m6=> ?_⟩
     ·rcases List.mem_append.1 hl with hl|hl
      ·exact r5 l hl
      ·exact s2 l hl
     ·refine⟨u,us',rfl,⟨_,by rw[<-hag];exact w1,r4 W1 m3 (fun l hl=>m4 l ?_)⟩,s3 M1 W1 m1 (fun l hl=>m2 l (by simp [hl])) m3 (fun l hl=>m4 l (by rcases hl with hl|hl<;>simp [hl])) m5 (fun l hl l' hl'=>m6 l hl l' (by simp [hl']))⟩;rcases hl with hl|hl<;>simp [hl]
   |pm k=>
    simp only[pass]at hp;obtain⟨x,bl,h1,hx⟩:=passM_ev h hv0 hp;obtain⟨q2,h3,h4⟩:=bind_ev h1;have hq:=ret_ev h4;subst hq;obtain⟨s1,s2,s3⟩:=ih (i+1) vs us' q2 γ h3 (by simpa [fits]using hfit) hv1 (fun j hj=>by rw[hγ j (by omega)];rfl);refine⟨s1,s2,fun M1 W1 m1 m2 m3 m4 m5 m6=> ?_⟩;exact⟨u,us',rfl,hx M1 W1 m1 m3 (fun l hl=>m4 l (.inr (List.mem_append_left _ hl))),s3 M1 W1 m1 m2 m3 (fun l hl=>m4 l (by rcases hl with hl|hl<;>simp [hl])) m5 m6⟩
   |fn f=>
    simp only[pass]at hp;obtain⟨q2,h3,h4⟩:=bind_ev hp;have hq:=ret_ev h4;subst hq;have hf:v= .one false [.v (.func (.func f) #[] #[])]/\fits ps vs=true:=by
     simp only[fits,Bool.and_eq_true]at hfit;refine⟨?_,hfit.2⟩;have h1:=hfit.1;split at h1
     ·rename_i g hg;rw[Nat.eq_of_beq_eq_true h1];exact fnOf_eq hg
     ·cases h1
    obtain⟨rfl,hfit'⟩:=hf;obtain⟨s1,s2,s3⟩:=ih (i+1) vs us' q2 γ h3 hfit' hv1 (fun j hj=>by rw[hγ j (by omega)];rfl);exact⟨s1,s2,fun M1 W1 m1 m2 m3 m4 m5 m6=>⟨u,us',rfl,vr_c0_inv hv0,s3 M1 W1 m1 m2 m3 m4 m5 m6⟩⟩
   |mu k=>
    cases v with
    |tup xs=>exact(fail_ev hp).elim
    |one ag cs=>
     cases ag with
     |true=>cases cs<;>exact(fail_ev hp).elim
     |false=>
      match cs with
      | []=>exact(fail_ev hp).elim
      |_::_::_=>rename_i c1 c2 c3;cases c1<;>exact(fail_ev hp).elim
      | [c]=>
       have key:∀(e:Mu) (x:List k.Ty) (q2:Pa (PTy ps)),(pass ps vs).ev S=some q2->q=⟨(x,q2.x),q2.fr,q2.bo,e::q2.mu⟩->EntA S α k x (entCO S α k e) e->
         (∀(M1 W1:Nat->Nat->Prop),(∀b o,M1 b o->MM E.M0 S.heap α b o)->(∀b o,fp (.arr false false k []) (entCO S α k e) b o->W1 b o)->MuArg w M1 W1 k x (entCO S α k e) u)->
         MuOk S α γ i (.mu k::ps) q.x q.mu/\(∀l∈q.fr,∃k full,(S.heap l).2= .arr true false k full)/\
         ∀(M1 W1:Nat->Nat->Prop),(∀b o,M1 b o->MM E.M0 S.heap α b o)->(∀l∈q.fr,∀b o,M1 b o->¬fp (S.heap l).2 (α l) b o)->
          (∀b o,W1 b o->MM E.W0 S.heap α b o)->(∀l,l∈q.fr\/l∈q.bo->∀b o,W1 b o->¬fp (S.heap l).2 (α l) b o)->(∀j b o,muFp γ i (.mu k::ps) j b o->W1 b o)->(∀l∈q.mu.map Mu.ob,∀l'∈q.fr,l≠l')->
          ArgsRel w M1 W1 γ i (.mu k::ps) q.x (u::us'):=by
        intro e x q2 h3 hq hent harg;subst hq
        obtain⟨s1,s2,s3⟩:=ih (i+1) vs us' q2 γ h3 (by simpa [fits]using hfit) hv1 (fun j hj=>by
         rw[hγ j (by omega)];show(if j=i then _ else _)=_;rw[if_neg (by omega)])
        have hγi:γ i=entCO S α k e:=by
         rw[hγ i (Nat.le_refl _)];show(if i=i then _ else _)=_;rw[if_pos rfl]
        refine⟨⟨e,q2.mu,rfl,by rw[hγi];exact hent,s1⟩,s2,fun M1 W1 m1 m2 m3 m4 m5 m6=> ?_⟩;refine⟨u,us',rfl,?_,s3 M1 W1 m1 m2 m3 m4 (fun j b o hj=>m5 j b o (.inr hj)) (fun l1 hl1=>m6 l1 (by simp at hl1 ⊢;exact .inr hl1))⟩;show MuArg w M1 W1 k x (γ i) u;rw[hγi];exact harg M1 W1 m1 (fun b o hf=>m5 i b o (.inl ⟨rfl,by rw[hγi];exact hf⟩))
       have harg:∀ {A A':Option (Nat×Nat)} {U:Option Addr} {full:List k.Ty} {vw:Option (Nat×Nat)} {cap real:Nat} {M1 W1:Nat->Nat->Prop},full.length<=cap->voff vw+vlen full vw<=full.length->SlAt A (voff vw*k.sz) (vlen full vw) (real - voff vw) u->
         (∀b oo,A=some (b,oo)->real - voff vw≠0->(∀(i:Nat) (x:k.Ty),full[i]? =some x->∃es,RdC w M1 k es x/\Cells0 w b (oo+i*k.sz) es)/\∀j,j<full.length*k.sz->(∃v,w.cell? ⟨b,oo+j,none⟩=some v)/\w.frozen? ⟨b,oo+j,none⟩=false)->
         (∀b o,fp (.arr false false k []) (shiftCO k.sz (.arr A cap real) (voff vw) (vlen full vw)) b o->W1 b o)->MuArg w M1 W1 k (look full vw) (shiftCO k.sz (.arr A cap real) (voff vw) (vlen full vw)) u:=by
        intro A A'' U full vw cap real M1 W1 hcap g1 gs hcells hW;obtain⟨A',rfl,g3,g4⟩:=gs;have hlen:=look_length full vw g1;refine⟨_,_,by rw[hlen];rfl,?_,by rw[hlen];exact g3,?_,fun b o hA=> ?_⟩
        ·rw[hlen];refine⟨A',rfl,g3,fun hc=> ?_⟩;obtain⟨b,oo,hA,hA'⟩:=g4 hc;rw[if_neg (by omega),hA];exact⟨b,oo+voff vw*k.sz,rfl,by rw[hA'];rfl⟩
        ·refine⟨fun hA=> ?_,fun h0=>by rw[if_pos h0]⟩;split at hA
         ·assumption
         ·rename_i hne;obtain⟨b,oo,hA2,_⟩:=g4 (by omega);rw[hA2]at hA;cases hA
        ·split at hA
         ·cases hA
         rename_i hne;obtain⟨b2,oo,hA2,_⟩:=g4 (by omega);subst hA2;cases hA;obtain⟨c6,c7⟩:=hcells b2 oo rfl hne;refine⟨fun q x hx=> ?_,fun j hj=> ?_⟩
         ·obtain⟨hx1,hx2⟩:=look_get full vw hx;obtain⟨es,e1,e2⟩:=c6 _ x hx1;refine⟨es,e1,?_⟩;rwa [Nat.add_mul,<-Nat.add_assoc]at e2
         ·rw[hlen]at hj;have hmul:(voff vw+vlen full vw)*k.sz<=full.length*k.sz:=Nat.mul_le_mul_right _ (by omega);rw[Nat.add_mul]at hmul;refine⟨hW _ _ ?_,?_⟩
          ·simp only[shiftCO];rw[if_neg hne];exact⟨rfl,by omega,by omega⟩
          ·have:=c7 (voff vw*k.sz+j) (by omega);rwa [<-Nat.add_assoc]at this
       have hr:=vr_c0_inv hv0;cases c<;>try exact(fail_ev hp).elim
       case ref l g vw=>
        simp only[pass,Cm.ev]at hp;split at hp
        case isFalse=>exact(fail_ev hp).elim
        rename_i hg;split at hp
        case h_2=>exact(fail_ev hp).elim
        rename_i mine k' full hob;split at hp
        case isFalse=>exact(fail_ev hp).elim
        rename_i hk;subst hk;obtain⟨q2,h3,h4⟩:=bind_ev hp;have hq:=ret_ev h4;have hp':=hr.1.2 hg;have hor:=h.obj l;obtain⟨A,cap,real,hα⟩:=arr_co h hob;rw[hob,hα]at hp' hor;obtain⟨c1,c2,c3,c4,c5⟩:=hor;have hle:=c1.1;refine key (.arr l (voff vw) (vlen full vw)) (look full vw) q2 h3 hq.symm ⟨mine,full,A,cap,real,hob,hα,hp'.1,look_length full vw hp'.1,rfl⟩ (fun M1 W1 m1 hW=> ?_);simp only[entCO,hα]at hW ⊢;refine harg (A':=none) (U:=none) hle hp'.1 hp'.2 (fun b oo hA _=> ?_) hW;obtain⟨c6,c7⟩:=c5 b oo hA;refine⟨fun q x hx=> ?_,fun j hj=>c7 rfl j ?_⟩
        ·obtain⟨es,e1,e2,_⟩:=c6 q x hx;exact⟨es,e1.mono (Keeps.less m1),e2⟩
        ·have:full.length*k'.sz<=cap*k'.sz:=Nat.mul_le_mul_right _ hle;omega
       case row l g rg q0 vw=>
        simp only[pass,Cm.ev]at hp;split at hp
        case isFalse=>exact(fail_ev hp).elim
        rename_i hg;split at hp
        case h_2=>exact(fail_ev hp).elim
        rename_i mine k' rg' hdr inn hob;split at hp
        case isFalse=>exact(fail_ev hp).elim
        rename_i hk;subst hk;split at hp
        case isFalse=>exact(fail_ev hp).elim
        rename_i hrg;obtain⟨q2,h3,h4⟩:=bind_ev hp;have hq:=ret_ev h4;have hp':=hr.1.2 hg;obtain⟨A,cap,real,ms,hα,R⟩:=rows_co h hob;rw[hob,hα]at hp';obtain⟨m,xs,g1,g2,g3,g4⟩:=hp'.2 hrg;have hxs:inn.getD q0 []=xs:=by simp [g2]
        simp only[castL_rfl]at hq;rw[hxs]at hq;obtain⟨a1,a2,a3,a4⟩:=R.mem q0 xs m g2 g1;have hco:entCO S α k' (.row l q0 (voff vw) (vlen xs vw))=shiftCO k'.sz (.arr m.1 m.2.1 m.2.2) (voff vw) (vlen xs vw):=by simp only[entCO,memCO,hα,g1]
        refine key (.row l q0 (voff vw) (vlen xs vw)) (look xs vw) q2 h3 hq.symm ⟨mine,rg',hdr,inn,A,cap,real,ms,m,xs,hob,hα,g1,g2,g3,look_length xs vw g3,hco⟩ (fun M1 W1 m1 hW=> ?_);rw[hco]at hW ⊢;refine harg (A':=none) (U:=none) (by omega) g3 g4 (fun b oo hA _=> ?_) hW;obtain⟨c6,c7⟩:=a4 b oo hA;refine⟨fun q x hx=> ?_,c7⟩;obtain⟨es,e1,e2⟩:=c6 q x hx;exact⟨es,e1.mono (Keeps.less m1),e2⟩
   |mr k=>
    cases v with
    |tup xs=>exact(fail_ev hp).elim
    |one ag cs=>
     cases ag with
     |true=>cases cs<;>exact(fail_ev hp).elim
     |false=>
      match cs with
      | []=>exact(fail_ev hp).elim
      |_::_::_=>rename_i c1 c2 c3;cases c1<;>exact(fail_ev hp).elim
      | [c]=>
       cases c<;>try exact(fail_ev hp).elim
       rename_i l g vw;simp only[pass,Cm.ev]at hp;split at hp
       case isFalse=>exact(fail_ev hp).elim
       rename_i hg;split at hp
       case h_2=>exact(fail_ev hp).elim
       rename_i mine k' rg hdr inn hob;split at hp
       case isFalse=>exact(fail_ev hp).elim
       rename_i hk;subst hk;split at hp
       case isFalse=>exact(fail_ev hp).elim
       rename_i hvw;obtain⟨hvo,hvm⟩:=hvw;simp only[Cm.ev]at hp;split at hp
       ·cases hp
       rename_i hdup;obtain⟨all,hp,hall,hnone⟩:=both_ev (fun e=>by rw[e];rfl) hp;obtain⟨q2,h3,h4⟩:=bind_ev hp;have hq:=ret_ev h4;subst hq;simp only[castL_rfl]at hγ ⊢;have hr:=vr_c0_inv hv0;have hp':=hr.1.2 hg;obtain⟨A,cap,real,ms,hα,R⟩:=rows_co h hob;rw[hob,hα]at hp';obtain⟨g1,gs⟩:=hp';rw[hvo]at g1 gs;rw[take_look hvo]at hdup ⊢;have hdup:dup ((hdr.take (vlen hdr vw)).map fun p=>p.1)=false:=by simpa using hdup
       obtain⟨s1,s2,s3⟩:=ih (i+1) vs us' q2 γ h3 (by simpa [fits]using hfit) hv1 (fun j hj=>by
        rw[hγ j (by omega)];show(if j=i then _ else _)=_;rw[if_neg (by omega)])
       have hγi:γ i= .rows A (vlen hdr vw) real (viewMs hdr ms (vlen hdr vw)):=by
        rw[hγ i (Nat.le_refl _)];show(if i=i then _ else _)=_;rw[if_pos rfl];simp only[entCO,viewCO,hob,hα]
       have hnl:(nrm (hdr.take (vlen hdr vw)) inn).length=vlen hdr vw:=by rw[nrm_length];simp;omega
       refine⟨⟨_,q2.mu,rfl,⟨mine,rg,hdr,inn,A,cap,real,ms,hob,hα,by omega,fun hn=> ?_,fun hm=> ?_,hdup,rfl,hγi⟩,s1⟩,s2,fun M1 W1 m1 m2 m3 m4 m5 m6=> ?_⟩
       ·exact hall hn
       ·rcases hvm with hvm|hvm
        ·rw[hm]at hvm;cases hvm
        ·exact hnone (by simpa using hvm)
       ·refine⟨u,us',rfl,?_,s3 M1 W1 m1 m2 m3 m4 (fun j b o hj=>m5 j b o (.inr hj)) (fun l1 hl1=>m6 l1 (by simp at hl1 ⊢;exact .inr hl1))⟩;show MrArg w M1 W1 k' (nrm (hdr.take (vlen hdr vw)) inn) (γ i) u;have hv:=rows_view R (len:=vlen hdr vw) (by omega) hdup false (vlen hdr vw) (Nat.le_refl _) (by have:=R.len;omega) (fun _=>rfl) (fun h=>by cases h) m1;refine⟨A,real,_,by rw[hnl];exact hγi,by rw[hnl];simpa using gs,by rw[hnl];exact hv.1,fun b o hf=>m5 i b o (.inl ⟨rfl,hf⟩)⟩
end
end Go.Cm
