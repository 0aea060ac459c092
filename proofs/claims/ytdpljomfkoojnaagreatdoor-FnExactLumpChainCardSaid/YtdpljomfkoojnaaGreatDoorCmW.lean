import Derived.Test.YtdpljomfkoojnaaGreatDoorCmV
set_option linter.unusedVariables false
namespace Go.Cm
section
variable {cx:Cx} {E:En} {S:St} {α:Nat->CO} {a:Act} {w:World} {o:Oper} {us:List Up}
def resUp (S:St) (o:Oper) (β:Nat->AO×CO) (J:List Nat):List Up:=J.map fun j=>Up.set (nm o j) ((S.heap (nm o j)).1+1) (β j).1
def resH (S:St) (o:Oper) (β:Nat->AO×CO) (J:List Nat) (H:Nat->Nat×AO):Nat->Nat×AO:=fun l=>if l∈J.map (nm o)then((S.heap l).1+1,(β (l - nm o 0)).1)else H l
theorem nm_sub (o:Oper) (j:Nat):nm o j - nm o 0=j:=by unfold nm;omega
theorem resUp_ups (β:Nat->AO×CO):∀(J:List Nat) (S':St),S'.ups (resUp S o β J)= {S' with heap:=resH S o β J S'.heap}
 | [],S'=>by
  have:resH S o β [] S'.heap=S'.heap:=by funext l;simp [resH]
  rw[this];rfl
 |j::J,S'=>by
  have ih:=resUp_ups β J (S'.up (.set (nm o j) ((S.heap (nm o j)).1+1) (β j).1));simp only[resUp,List.map_cons,St.ups,List.foldl_cons]at ih ⊢;rw[ih];simp only[St.up];congr 1;funext t;unfold resH;simp only[beq_iff]
  by_cases ht:t∈J.map (nm o)
  ·simp [ht]
  ·by_cases hj:t=nm o j
   ·subst hj;simp [ht,nm_sub]
   ·simp [ht,hj]
def ResAt (S:St) (o:Oper) (β:Nat->AO×CO) (J:List Nat) (H':Nat->Nat×AO) (α':Nat->CO):Prop:=∀j∈J,H' (nm o j)=((S.heap (nm o j)).1+1,(β j).1)/\α' (nm o j)=(β j).2
def AlAt (vs:List AV) (us:List Value) (H':Nat->Nat×AO) (α':Nat->CO):Prop:=∀(i l g:Nat) (vw:Option (Nat×Nat)) (u0:Value),vs[i]? =some (.one false [.ref l g vw])->us[i]? =some u0->(g<=(H' l).1/\((H' l).1=g->RefAt vw u0 (H' l).2 (α' l)))
theorem RefAt.al {vw:Option (Nat×Nat)} {u u0:Value} (hs:∀A d len c,SlAt A d len c u0->SlAt A d len c u) {ob:AO} {c:CO} (h:RefAt vw u0 ob c):RefAt vw u ob c:=by
 cases ob<;>cases c<;>first
  |exact⟨h.1,hs _ _ _ _ h.2⟩
  |trivial
  |(rename_i cs b
    obtain⟨c1,e1,e2,e3⟩:=h;obtain⟨A',q1,_,q3⟩:=hs (some (b,0)) 0 _ c1 ⟨_,e1,e2,fun _=>⟨_,_,rfl,rfl⟩⟩;obtain⟨b',o',q4,q5⟩:=q3 e3;cases q4;exact⟨c1,by rw[q1,q5],e2,e3⟩)
theorem backC_sound {w':World} {M':Nat->Nat->Prop} {β:Nat->AO×CO} {vs:List AV} {us0:List Value} {j:Nat} :∀ {r:RC} {x:r.Ty} {cs:List Value} {p:List A0×List Up},(backC o vs j r x).ev S=some p->ResC w' M' β us0 j r x cs->
  p.2=resUp S o β (ownS j [r])/\∀(Mf Mb:Nat->Nat->Prop) (H':Nat->Nat×AO) (α':Nat->CO),(∀b o,Mf b o->M' b o)->ResAt S o β (ownS j [r]) H' α'->AlAt vs us0 H' α'->Al (VR0 w' Mf Mb H' α') p.1 cs
 | .ro k,x,cs,p,hp,hr=>by
  have:=ret_ev hp;subst this;exact⟨rfl,fun Mf Mb H' α' hM _ _=>unpack_rd (fl:=false) (x:=x) (RdC.mono (Keeps.less hM) hr)⟩
 | .own k,xs,cs,p,hp,hr=>by
  simp only[backC,Cm.ev,Option.some.injEq]at hp;subst hp;obtain⟨u,A,cap,real,rfl,hβ,hO,hS⟩:=hr;refine⟨by simp [resUp,ownS,hβ],fun Mf Mb H' α' hM hat _=> ?_⟩;obtain⟨h1,h2⟩:=hat j (by simp [ownS]);refine .cons ⟨⟨by rw[h1];exact Nat.le_refl _,fun _=> ?_⟩,?_⟩ .nil
  ·rw[h1,h2,hβ];exact refAt_none hS
  ·obtain⟨A',rfl,_⟩:=hS;rfl
 | .ov k,xs,cs,p,hp,hr=>by
  simp only[backC,Cm.ev,Option.some.injEq]at hp;subst hp;obtain⟨u,A,cap,real,rfl,hβ,hO,hl,hS⟩:=hr;refine⟨by simp [resUp,ownS,hβ],fun Mf Mb H' α' hM hat _=> ?_⟩;obtain⟨h1,h2⟩:=hat j (by simp [ownS]);refine .cons ⟨⟨by rw[h1];exact Nat.le_refl _,fun _=> ?_⟩,?_⟩ .nil
  ·rw[h1,h2,hβ];refine⟨by show 0+xs.2<=_;omega,?_⟩;show SlAt A (0*k.sz) xs.2 (real - 0) u;rw[Nat.zero_mul];exact hS
  ·obtain⟨A',rfl,_⟩:=hS;rfl
 | .rows k,xs,cs,p,hp,hr=>by
  simp only[backC,Cm.ev,Option.some.injEq]at hp;subst hp;obtain⟨u,A,cap,real,ms,rfl,hβ,hO,hl,hS⟩:=hr;refine⟨by simp [resUp,ownS,hβ],fun Mf Mb H' α' hM hat _=> ?_⟩;obtain⟨h1,h2⟩:=hat j (by simp [ownS]);refine .cons ⟨⟨by rw[h1];exact Nat.le_refl _,fun _=> ?_⟩,?_⟩ .nil
  ·rw[h1,h2,hβ];refine⟨by show 0+xs.2<=(hd0 xs.1).length;rw[hd0_length];omega,?_⟩;exact hS
  ·obtain⟨A',rfl,_⟩:=hS;rfl
 | .al i k,xs,cs,p,hp,hr=>by
  simp only[backC]at hp;split at hp
  case h_2=>exact(fail_ev hp).elim
  rename_i l g vw hvi;have:=ret_ev hp;subst this;obtain⟨u,u0,rfl,hui,hone,hs⟩:=hr;refine⟨rfl,fun Mf Mb H' α' hM hat hal=> .cons ⟨?_,hone⟩ .nil⟩;obtain⟨g1,g2⟩:=hal i l g vw u0 hvi hui;exact⟨g1,fun he=>RefAt.al hs (g2 he)⟩
theorem ownS_append:∀(rs ts:List RC) (j:Nat),ownS j (rs++ts)=ownS j rs++ownS (j+rs.length) ts
 | [],ts,j=>by simp [ownS]
 | .ro k::rs,ts,j=>by simp only[List.cons_append,ownS,List.length_cons];rw[ownS_append rs ts (j+1)];congr 2;omega
 | .own k::rs,ts,j=>by simp only[List.cons_append,ownS,List.length_cons];rw[ownS_append rs ts (j+1)];congr 3;omega
 | .ov k::rs,ts,j=>by simp only[List.cons_append,ownS,List.length_cons];rw[ownS_append rs ts (j+1)];congr 3;omega
 | .rows k::rs,ts,j=>by simp only[List.cons_append,ownS,List.length_cons];rw[ownS_append rs ts (j+1)];congr 3;omega
 | .al i k::rs,ts,j=>by simp only[List.cons_append,ownS,List.length_cons];rw[ownS_append rs ts (j+1)];congr 2;omega
theorem resUp_append (β:Nat->AO×CO) (J K:List Nat):resUp S o β (J++K)=resUp S o β J++resUp S o β K:=by simp [resUp]
theorem backS_sound {w':World} {M':Nat->Nat->Prop} {β:Nat->AO×CO} {vs:List AV} {us0:List Value} :∀ {rs:List RC} {j:Nat} {x:RsTy rs} {cs:List Value} {p:List A0×List Up},(backS o vs j rs x).ev S=some p->ResS w' M' β us0 j rs x cs->
  p.2=resUp S o β (ownS j rs)/\∀(Mf Mb:Nat->Nat->Prop) (H':Nat->Nat×AO) (α':Nat->CO),(∀b o,Mf b o->M' b o)->ResAt S o β (ownS j rs) H' α'->AlAt vs us0 H' α'->Al (VR0 w' Mf Mb H' α') p.1 cs
 | [],j,x,cs,p,hp,hr=>by
  have:=ret_ev hp;subst this;have:cs=[]:=hr;subst this;exact⟨rfl,fun _ _ _ _ _ _ _=> .nil⟩
 | [r],j,x,cs,p,hp,hr=>backC_sound hp hr
 |r::s::t,j,x,cs,p,hp,hr=>by
  simp only[backS]at hp;obtain⟨p1,h1,h2⟩:=bind_ev hp;obtain⟨p2,h3,h4⟩:=bind_ev h2;have:=ret_ev h4;subst this;obtain⟨c1,c2,rfl,r1,r2⟩:=hr;obtain⟨a1,a2⟩:=backC_sound h1 r1;obtain⟨b1,b2⟩:=backS_sound h3 r2;have hown:ownS j (r::s::t)=ownS j [r]++ownS (j+1) (s::t):=ownS_append [r] (s::t) j;refine⟨by rw[hown,resUp_append,<-a1,<-b1],fun Mf Mb H' α' hM hat hal=> ?_⟩;rw[hown]at hat;exact(a2 Mf Mb H' α' hM (fun i hi=>hat i (by simp [hi])) hal).append (b2 Mf Mb H' α' hM (fun i hi=>hat i (by simp [hi])) hal)
theorem backR_sound {w':World} {M':Nat->Nat->Prop} {β:Nat->AO×CO} {vs0:List AV} {us0:List Value} :∀ {rs:List RK} {j:Nat} {x:RkTy rs} {vs:List Value} {p:List (Bool×List A0)×List Up},(backR o vs0 j rs x).ev S=some p->ResR w' M' β us0 j rs x vs->
  p.2=resUp S o β (ownR j rs)/\∀(Mf Mb:Nat->Nat->Prop) (H':Nat->Nat×AO) (α':Nat->CO),(∀b o,Mf b o->M' b o)->ResAt S o β (ownR j rs) H' α'->AlAt vs0 us0 H' α'->Al (VR1 (VR0 w' Mf Mb H' α')) p.1 vs
 | [],j,x,vs,p,hp,hr=>by
  have:=ret_ev hp;subst this;have:vs=[]:=hr;subst this;exact⟨rfl,fun _ _ _ _ _ _ _=> .nil⟩
 | [r],j,x,vs,p,hp,hr=>by
  simp only[backR]at hp;obtain⟨p1,h1,h2⟩:=bind_ev hp;have:=ret_ev h2;subst this;obtain⟨cs,rfl,r1,r2⟩:=hr;obtain⟨a1,a2⟩:=backS_sound h1 r2;refine⟨by simp only[ownR,List.append_nil];exact a1,fun Mf Mb H' α' hM hat hala=> ?_⟩;have hal:=a2 Mf Mb H' α' hM (by simpa [ownR]using hat) hala;exact .cons ⟨cs,rfl,hal,fun hf=>by rw[hal.length];exact r1 hf⟩ .nil
 |r::s::t,j,x,vs,p,hp,hr=>by
  simp only[backR]at hp;obtain⟨p1,h1,h2⟩:=bind_ev hp;obtain⟨p2,h3,h4⟩:=bind_ev h2;have:=ret_ev h4;subst this;obtain⟨cs,vs',rfl,r1,r2,r3⟩:=hr;obtain⟨a1,a2⟩:=backS_sound h1 r2;obtain⟨b1,b2⟩:=backR_sound h3 r3;refine⟨by simp only[ownR,resUp_append]at b1 ⊢;rw[a1,b1],fun Mf Mb H' α' hM hat hala=> ?_⟩;have hal:=a2 Mf Mb H' α' hM (fun i hi=>hat i (by simp [ownR,hi])) hala;exact .cons ⟨cs,rfl,hal,fun hf=>by rw[hal.length];exact r1 hf⟩ (b2 Mf Mb H' α' hM (fun i hi=>hat i (by simp only[ownR,List.mem_append]at hi ⊢;exact .inr hi)) hala)
def OwnOk (w':World) (M':Nat->Nat->Prop) (p:AO×CO):Prop:=isMine p.1=true/\∀(Mf Mb:Nat->Nat->Prop) (H':Nat->Nat×AO) (α':Nat->CO),(∀b o,Mf b o->M' b o)->OR w' Mf Mb H' α' p.1 p.2
theorem oa_arr {w':World} {M':Nat->Nat->Prop} {k:Kd} {xs:List k.Ty} {A:Option (Nat×Nat)} {cap real:Nat} (hO:OA w' M' (.arr true false k xs) (.arr A cap real)):OwnOk w' M' (.arr true false k xs, .arr A cap real):=by
 refine⟨rfl,fun Mf Mb H' α' hM=> ?_⟩;obtain⟨c1,c2,c3,c4,c5⟩:=hO;refine⟨c1,c2,c3,c4,fun b oo hA=> ?_⟩;obtain⟨c6,c7⟩:=c5 b oo hA;refine⟨fun i x hx=> ?_,c7⟩;obtain⟨es,d1,d2,_⟩:=c6 i x hx;exact⟨es,d1.mono (Keeps.less hM),d2,fun hz=>by cases hz⟩
theorem resC_own {w':World} {M':Nat->Nat->Prop} {β:Nat->AO×CO} {us0:List Value} {r:RC} {j:Nat} {x:r.Ty} {cs:List Value} (h:ResC w' M' β us0 j r x cs):∀i∈ownS j [r],OwnOk w' M' (β i):=by
 cases r with
 |ro k=>intro i hi;simp [ownS]at hi
 |al q k=>intro i hi;simp [ownS]at hi
 |own k=>
  intro i hi;simp [ownS]at hi;subst hi;obtain⟨u,A,cap,real,rfl,hβ,hO,hS⟩:=h;rw[hβ]at hO ⊢;exact oa_arr hO
 |ov k=>
  intro i hi;simp [ownS]at hi;subst hi;obtain⟨u,A,cap,real,rfl,hβ,hO,hl,hS⟩:=h;rw[hβ]at hO ⊢;exact oa_arr hO
 |rows k=>
  intro i hi;simp [ownS]at hi;subst hi;obtain⟨u,A,cap,real,ms,rfl,hβ,hO,hl,hS⟩:=h;rw[hβ]at hO ⊢;exact⟨rfl,fun Mf Mb H' α' hM=>RowsOk.mono (rg:=0) (Keeps.less hM) (fun b i v _ hc=>⟨hc,rfl⟩) hO⟩
theorem resS_own {w':World} {M':Nat->Nat->Prop} {β:Nat->AO×CO} {us0:List Value} :∀ {rs:List RC} {j:Nat} {x:RsTy rs} {cs:List Value},ResS w' M' β us0 j rs x cs->∀i∈ownS j rs,OwnOk w' M' (β i)
 | [],_,_,_,_,i,hi=>by simp [ownS]at hi
 | [r],j,x,cs,h,i,hi=>resC_own h i hi
 |r::s::t,j,x,cs,h,i,hi=>by
  obtain⟨c1,c2,rfl,r1,r2⟩:=h;have hown:ownS j (r::s::t)=ownS j [r]++ownS (j+1) (s::t):=ownS_append [r] (s::t) j;rw[hown]at hi;rcases List.mem_append.1 hi with hi|hi
  ·exact resC_own r1 i hi
  ·exact resS_own r2 i hi
theorem resR_own {w':World} {M':Nat->Nat->Prop} {β:Nat->AO×CO} {us0:List Value} :∀ {rs:List RK} {j:Nat} {x:RkTy rs} {vs:List Value},ResR w' M' β us0 j rs x vs->∀i∈ownR j rs,OwnOk w' M' (β i)
 | [],_,_,_,_,i,hi=>by simp [ownR]at hi
 | [r],j,x,vs,h,i,hi=>by
  obtain⟨cs,rfl,_,h2⟩:=h;exact resS_own h2 i (by simpa [ownR]using hi)
 |r::s::t,j,x,vs,h,i,hi=>by
  obtain⟨cs,vs',rfl,_,h1,h2⟩:=h;rw[show ownR j (r::s::t)=ownS j r.2++ownR (j+r.2.length) (s::t)from rfl]at hi;rcases List.mem_append.1 hi with hi|hi
  ·exact resS_own h1 i hi
  ·exact resR_own h2 i hi
structure ShrOk (P:Program) (f:Nat) (ik:IntKind) (n:List Int->Nat):Prop where
 ent:Enters P f
 runs:∀(w:World) (u:Value) (xs:List Int) (A:Option (Nat×Nat)) (real:Nat),xs.length<=1000000000000->SlAt A 0 xs.length real u->(A=none->real=0)->
  (∀b o,A=some (b,o)->∀(i:Nat) (x:Int),xs[i]? =some x->w.cell? ⟨b,o+i,none⟩=some (.int ik x))->
  Calls P f #[u] w fun e w'=>w'=w/\n xs<=xs.length/\∃u',e= .returned u'/\u'.oneCell'=true/\SlAt A 0 (n xs) real u'
def CtsOk (cx:Cx) (P:Program) (gl:List (Nat×List Value)):Prop:=(∀f c,(f,c)∈cx.ct->Valid P gl f c/\c.tup= !(c.rs.length==1))/\∀f s,find f cx.shr=some s->ShrOk P f s.1 s.2
theorem pick_mem:∀ {cts:List (Nat×Ct)} {f:Nat} {vs:List AV} {c:Ct},pick f vs cts=some c->(f,c)∈cts/\fitsG c vs=true
 | [],_,_,_,h=>by cases h
 |(g,d)::r,f,vs,c,h=>by
  simp only[pick]at h;cases hq:(Nat.beq g f&&fitsG d vs)with
  |true=>
   rw[hq]at h;simp only[cond_true,Option.some.injEq]at h;subst h;simp only[Bool.and_eq_true]at hq;rw[Nat.eq_of_beq_eq_true hq.1];exact⟨by simp,hq.2⟩
  |false=>
   rw[hq]at h;obtain⟨h1,h2⟩:=pick_mem (cts:=r) h;exact⟨by simp [h1],h2⟩
theorem resR_length {w':World} {M':Nat->Nat->Prop} {β:Nat->AO×CO} {us0:List Value} :∀ {rs:List RK} {j:Nat} {x:RkTy rs} {vs:List Value},ResR w' M' β us0 j rs x vs->vs.length=rs.length
 | [],_,_,_,h=>by rw[show _=[]from h];rfl
 | [r],_,_,_,h=>by obtain⟨cs,rfl,_⟩:=h;rfl
 |r::s::t,_,_,_,h=>by
  obtain⟨cs,vs',rfl,_,_,h2⟩:=h;simp [resR_length h2]
theorem vr_cells {R:A0->Value->Prop} :∀ {cs:List A0} {ws:List Value},Al R cs ws->Al (VR R) (cs.map fun c=>AV.one false [c]) ws
 | [],_,h=>by cases h;exact .nil
 |c::cs,_,h=>by
  cases h with
  |cons h1 h2=>exact .cons ⟨[_],rfl, .cons h1 .nil,fun _=>rfl⟩ (vr_cells h2)
theorem spl_ok {R:A0->Value->Prop} :∀ {ar:List Nat} {vs vs':List AV} {us:List Value},spl ar vs=some vs'->Al (VR R) vs us->∃us',us=gat ar us'/\Al (VR R) vs' us'
 | [],vs,vs',us,h,hv=>by
  simp only[spl,Option.some.injEq]at h;subst h;exact⟨us,rfl,hv⟩
 |0::r,[],vs',us,h,hv=>by simp [spl]at h
 |0::r,v::vs,vs',us,h,hv=>by
  simp only[spl,Option.map_eq_some_iff]at h;obtain⟨q,h1,rfl⟩:=h;cases hv with
  |cons h2 h3=>
   obtain⟨us',rfl,h4⟩:=spl_ok h1 h3;exact⟨_::us',rfl, .cons h2 h4⟩
 |(n+1)::r,[],vs',us,h,hv=>by simp [spl]at h
 |(n+1)::r, .tup _::vs,vs',us,h,hv=>by simp [spl]at h
 |(n+1)::r, .one false _::vs,vs',us,h,hv=>by simp [spl]at h
 |(n+1)::r, .one true cs::vs,vs',us,h,hv=>by
  simp only[spl]at h;split at h
  case isFalse=>cases h
  rename_i hl;rw[Option.map_eq_some_iff]at h;obtain⟨q,h1,rfl⟩:=h;cases hv with
  |cons h2 h3=>
   obtain⟨us',rfl,h4⟩:=spl_ok h1 h3;obtain⟨ws,rfl,h5,_⟩:=h2;have hlen:ws.length=n+1:=by rw[<-hl];exact h5.length.symm
   refine⟨ws++us',?_,(vr_cells h5).append h4⟩;simp only[gat,enc,if_true];rw[<-hlen,List.take_left,List.drop_left]
theorem clash_false {xs ys:List Nat} (h:clash xs ys=false):∀x∈xs,x∉ys:=by
 intro x hx hy;have:=List.any_eq_false.1 h x hx;rw[List.any_eq_true]at this;exact this ⟨x,hy,by rw[beq_iff];simp⟩
theorem step_call (ht:TdsOk cx E.P) (hct:CtsOk cx E.P E.gl) (h:Inv E S α a w) (hd:dstOk E.n o) {c:Call} (ho:o.op= .call c) {fo:Operand} (hc:c.callee= .value fo) {f:Nat} (hfo:a.eval fo= .func (.func f) #[] #[]) {vs:List AV}
  (hv:Al (VR (R0 E S.heap α w)) vs (c.args.toList.map a.eval)) (hs:(sCall cx o f vs).ev S=some us):Does E S a w o us:=by
 unfold sCall at hs;split at hs
 ·exact(fail_ev hs).elim
 rename_i ct hpick;obtain⟨hmem,hfitG⟩:=pick_mem hpick;obtain⟨⟨⟨fn,f1,f2,f3⟩,hvalid⟩,htup⟩:=hct.1 f ct hmem;unfold fitsG at hfitG;split at hs
 ·exact(fail_ev hs).elim
 rename_i vs' hspl;rw[hspl]at hfitG;have hfit:fits ct.ps vs'=true:=hfitG;obtain⟨us',hargsE,hv'⟩:=spl_ok hspl hv;clear hv;have hv:=hv';obtain⟨q,hp,hs⟩:=bind_ev hs;split at hs
 ·exact(fail_ev hs).elim
 rename_i hcl;simp only[Bool.or_eq_true,not_or,Bool.not_eq_true]at hcl;obtain⟨⟨hc1,hc2⟩,hc3⟩:=hcl;simp only[Cm.ev,Option.bind_eq_some_iff]at hs;obtain⟨r,hr,hs⟩:=hs;obtain⟨fs,hfs,hs⟩:=bind_ev hs;obtain⟨ms,hms,hs⟩:=bind_ev hs;obtain⟨bk,hbk,hs⟩:=bind_ev hs;have hus:=ret_ev hs;have hγ:∀j,0<=j->gam S α 0 ct.ps q.mu j=gam S α 0 ct.ps q.mu j:=fun _ _=>rfl
 generalize hgd:gam S α 0 ct.ps q.mu=γ at hγ;obtain⟨hmu,hfr,hargs⟩:=pass_sound h ct.ps 0 vs' _ q γ hp hfit hv (fun j _=>by rw[hgd]);have hI1:=frz_inv h hfr;obtain⟨av1,av2⟩:=frz_avoid h hfr E.M0 (fun _ _ h=>h);have hfw:∀j b o,muFp γ 0 ct.ps j b o->∃l∈q.mu.map Mu.ob,fp (S.heap l).2 (α l) b o/\l∉q.fr/\l∉q.bo:=by
  intro j b o hj;obtain⟨g1,g2⟩:=muFp_obj h hmu hj;exact⟨_,g2,g1,clash_false hc2 _ g2,clash_false hc1 _ g2⟩
 have hfrz:∀l,l∉q.fr->frz q.fr S.heap l=S.heap l:=fun l hl=>by simp [frz,hl]
 let M1:Nat->Nat->Prop:=MM E.M0 (frz q.fr S.heap) α
 let W1:Nat->Nat->Prop:=fun b o=>∃j,muFp γ 0 ct.ps j b o
 have hW1M:∀b o,W1 b o->M1 b o:=by
  rintro b o ⟨j,hj⟩
  obtain⟨l,l1,l2,l3,l4⟩:=hfw j b o hj;refine .inr ⟨l,?_⟩;rw[hfrz l l3];exact l2
 have hM1lt:∀b o,M1 b o->b<w.heap.size:=by
  rintro b o (hm|⟨l,hl⟩)
  ·exact Nat.lt_of_lt_of_le (E.hM b o hm) h.fr.size
  ·exact(hI1.obj l).lt hl
 have hA:ArgsRel w M1 W1 γ 0 ct.ps q.x us':=by
  refine hargs M1 W1 av1 av2 ?_ ?_ (fun j b o hj=>⟨j,hj⟩) (fun l hl l' hl' e=> ?_)
  ·rintro b o ⟨j,hj⟩
   obtain⟨l,l1,l2,l3,l4⟩:=hfw j b o hj;exact .inr ⟨l,l2⟩
  ·rintro l hl b o ⟨j,hj⟩ hf
   obtain⟨l',l1,l2,l3,l4⟩:=hfw j b o hj;refine h.dsj l' l b o (fun e=> ?_) l2 hf;subst e;rcases hl with hl|hl
   ·exact l3 hl
   ·exact l4 hl
  ·subst e;exact clash_false hc2 l hl hl'
 have hdis:MuDisj γ ct.ps:=by
  intro j j' b o hne h1 h2;have g1:=(muFp_obj h hmu h1).1;have g2:=(muFp_obj h hmu h2).1;exact h.dsj _ _ b o (fun e=>hne (muObj_inj h hmu hc3 h1 h2 e)) g1 g2
 have hlay:Laid E.gl w M1:=by
  intro p hp;obtain⟨⟨e,z,l1⟩,l2⟩:=E.lay p hp;have hlt:p.1<E.w0.heap.size:=by
   rcases Nat.lt_or_ge p.1 E.w0.heap.size with h|h
   ·exact h
   ·rw[Array.getElem?_eq_none h]at l1;cases l1
  have l3:∀o,¬E.W0 p.1 o:=fun o h0=>l2 o (E.hW _ _ h0)
  refine⟨⟨e,z,?_⟩,fun o=> ?_⟩
  ·rcases h.fr.block p.1 hlt with hb|⟨cs,cs',e',z',b1,b2,b3,b4⟩
   ·rw[hb,l1]
   ·rw[l1]at b1;simp only[Option.some.injEq,Obj.cells.injEq]at b1;obtain⟨rfl,rfl,rfl⟩:=b1;have:cs'=p.2.toArray:=Array.ext_getElem? fun i=>b4 i (l3 i)
    rw[b2,this]
  ·rintro (hm|⟨l,hf⟩)
   ·exact l2 o hm
   ·rcases hI1.new l _ _ hf with hb|⟨hb,_⟩
    ·omega
    ·exact l3 o hb
 have hcalls:=hvalid w M1 W1 _ q.x γ hM1lt hW1M hlay hA hdis r hr;rw[<-hargsE]at hcalls;have hrun:(execOp a.eval o).run E.P w= .ok (.enter f (c.args.toList.map a.eval).toArray) w:=by
  rw[<-args_map];have f2':¬fn.name= "runtime.NumGoroutine" :=by simpa using f2
  have f3':¬fn.body=none:=fun e=>by rw[e]at f3;cases f3
  simp [execOp,ho,resolve,hc,hfo,Deferred.ofValue,invoke,callFunc,f1,f2',f3']
 intro next Q hn;unfold Oper.wp;rw[hrun,Oper.upon_enter];refine hcalls.mono ?_
 rintro e w' ⟨rs,rfl,hF,β,β1,β2,hres,hback⟩
 show next (a.put o.dst (bval ct.tup rs)) w';obtain⟨b1,b2⟩:=backR_sound hbk hres
 let J:=ownR 0 ct.rs
 let H1:=frz q.fr S.heap
 let H2:=muSet S ct.ps r.2 q.mu H1
 let H3:=resH S o β J H2
 let M':Nat->Nat->Prop:=fun b o=>M1 b o\/∃j,fp (β j).1 (β j).2 b o
 obtain⟨δ,δ1,δ2⟩:=muSet_in h hF (M':=M') (H:=H1) hmu hback hc3 (fun b o hw=> .inl hw)
 let α':Nat->CO:=fun l=>if l∈J.map (nm o)then(β (l - nm o 0)).2 else δ l
 have hSus:S.ups us=(({S with heap:=H3} :St)).ups (dput o (match ct.tup,bk.1 with|false,[(ag,cs)]=> .one ag cs|_,xs=> .tup xs)):=by
  rw[<-hus,ups_append,ups_append,ups_append,freezes_ups hfs,backs_ups hms,b1,resUp_ups];rfl
 have hin3:∀j∈J,H3 (nm o j)=((S.heap (nm o j)).1+1,(β j).1)/\α' (nm o j)=(β j).2:=by
  intro j hj;have:nm o j∈J.map (nm o):=List.mem_map.2 ⟨j,hj,rfl⟩;simp only[H3,resH,α',this,if_true,nm_sub];exact⟨trivial,trivial⟩
 have hmun:∀l,l∉J.map (nm o)->l∈q.mu.map Mu.ob->MuNew E S α w w' M' l (H3 l) (α' l):=by
  intro l hl hm;simp only[H3,resH,α',hl,if_false];exact δ2 l hm
 have hold:∀l,¬(l∈J.map (nm o)\/l∈q.mu.map Mu.ob)->H3 l=H1 l/\α' l=α l:=by
  intro l hl;simp only[not_or]at hl;simp only[H3,resH,α',hl.1,if_false];exact⟨muSet_out hl.2,δ1 l hl.2⟩
 have hfp3:∀l,l∉J.map (nm o)->∀b o,fp (H3 l).2 (α' l) b o->fp (H1 l).2 (α l) b o:=by
  intro l hl b oo hf
  by_cases hm:l∈q.mu.map Mu.ob
  ·have:H1 l=S.heap l:=hfrz l (clash_false hc2 l hm);rw[this];exact(hmun l hl hm).fps b oo hf
  ·obtain⟨e1,e2⟩:=hold l (by simp only[not_or];exact⟨hl,hm⟩);rw[e1,e2]at hf;exact hf
 have hMf:∀b o,MM E.M0 H3 α' b o->M' b o:=by
  rintro b oo (hm|⟨l,hf⟩)
  ·exact .inl (.inl hm)
  ·by_cases hl:l∈J.map (nm o)
   ·obtain⟨j,hj,rfl⟩:=List.mem_map.1 hl;obtain⟨e1,e2⟩:=hin3 j hj;rw[e1,e2]at hf;exact .inr ⟨j,hf⟩
   ·exact .inl (.inr ⟨l,hfp3 l hl b oo hf⟩)
 have hcellF:∀b oo v,w.cell? ⟨b,oo,none⟩=some v->¬W1 b oo->w'.cell? ⟨b,oo,none⟩=some v/\w'.frozen? ⟨b,oo,none⟩=w.frozen? ⟨b,oo,none⟩:=fun b oo v hcl hn=>⟨hF.cell hcl hn,hF.frozen hcl⟩
 have hgo:Goes H1 α H3 α':=by
  intro l
  by_cases hl:l∈J.map (nm o)
  ·obtain⟨j,hj,rfl⟩:=List.mem_map.1 hl;obtain⟨e1,e2⟩:=hin3 j hj;have hg1:(H1 (nm o j)).1=(S.heap (nm o j)).1:=by
    show(frz q.fr S.heap (nm o j)).1=_;unfold frz;split
    ·exact(frz1_shape (c:= .no)).1
    ·rfl
   rw[e1,hg1];exact⟨Nat.le_succ _,fun he=>by simp at he⟩
  ·by_cases hm:l∈q.mu.map Mu.ob
   ·have hH1:H1 l=S.heap l:=hfrz l (clash_false hc2 l hm);rw[hH1];exact⟨(hmun l hl hm).gen,fun he=> .inr ((hmun l hl hm).shp he)⟩
   ·obtain⟨e1,e2⟩:=hold l (by simp only[not_or];exact⟨hl,hm⟩);rw[e1,e2];exact⟨Nat.le_refl _,fun _=> .inl ⟨rfl,rfl⟩⟩
 have hfinal:=(Inv.change hI1 (fun l=>l∈J.map (nm o)\/l∈q.mu.map Mu.ob) (H':=H3) (α':=α') (w':=w')
  (fun l hl=>hold l hl)
  (fun b oo v hcl hn=>hcellF b oo v hcl (by
   rintro ⟨j,hj⟩
   obtain⟨l,l1,l2,l3,l4⟩:=hfw j b oo hj;refine hn l (.inr l1) ?_;show fp (frz q.fr S.heap l).2 (α l) b oo;rw[hfrz l l3];exact l2))
  (Fr.weaken hF h.fr.size (by
   rintro b oo hb ⟨j,hj⟩
   obtain⟨l,l1,l2,l3,l4⟩:=hfw j b oo hj;rcases h.new l b oo l2 with g|⟨g,_⟩
   ·omega
   ·exact g) h.fr)
  (fun l hl b oo hf=>by
   by_cases hlj:l∈J.map (nm o)
   ·obtain⟨j,hj,rfl⟩:=List.mem_map.1 hlj;obtain⟨e1,e2⟩:=hin3 j hj;rw[e1,e2]at hf;exact .inr (β1 j b oo hf).2
   ·exact .inl (hfp3 l hlj b oo hf))
  (fun l l' b oo hl hl' hne hge hf hf'=>by
   by_cases hlj:l∈J.map (nm o)
   ·by_cases hlj':l'∈J.map (nm o)
    ·obtain⟨j,hj,rfl⟩:=List.mem_map.1 hlj;obtain⟨j',hj',rfl⟩:=List.mem_map.1 hlj';obtain⟨e1,e2⟩:=hin3 j hj;obtain⟨e1',e2'⟩:=hin3 j' hj';rw[e1,e2]at hf;rw[e1',e2']at hf';exact β2 j j' b oo (fun e=>hne (by rw[e])) hf hf'
    ·have:=(hI1.obj l').lt (hfp3 l' hlj' b oo hf');omega
   ·have:=(hI1.obj l).lt (hfp3 l hlj b oo hf);omega)
  (fun l hl b oo hf hlt hm=>by
   by_cases hlj:l∈J.map (nm o)
   ·obtain⟨j,hj,rfl⟩:=List.mem_map.1 hlj;obtain⟨e1,e2⟩:=hin3 j hj;rw[e1,e2]at hf;have:=(β1 j b oo hf).2;omega
   ·have hH1:H1 l=S.heap l:=hfrz l (clash_false hc2 l (hl.resolve_left hlj))
    change isMine (H1 l).2=false at hm
    rw[hH1]at hm;rw[(hmun l hlj (hl.resolve_left hlj)).mine];exact hm)
  (fun l hl hm=>by
   by_cases hlj:l∈J.map (nm o)
   ·obtain⟨j,hj,rfl⟩:=List.mem_map.1 hlj;obtain⟨e1,e2⟩:=hin3 j hj;have hmi:=(resR_own hres j hj).1;rw[e1]at hm;rw[hmi]at hm;cases hm
   ·have hn:=hmun l hlj (hl.resolve_left hlj);rw[hn.mine]at hm;exact hn.frn.trans (h.frn l hm))
  hgo
  (fun k1 k2 l hl=>by
   by_cases hlj:l∈J.map (nm o)
   ·obtain⟨j,hj,rfl⟩:=List.mem_map.1 hlj;obtain⟨e1,e2⟩:=hin3 j hj;rw[e1,e2];exact(resR_own hres j hj).2 _ _ _ _ hMf
   ·have hm:=hl.resolve_left hlj;refine(hmun l hlj hm).or _ _ _ _ hMf (fun b oo v hcl hnm=>k1 b oo v hcl (fun hm1=>hnm (av1 b oo hm1))))).1
 refine hn α' _ w' ?_;rw[hSus];refine hfinal.dput hd ?_;have hal:=b2 (MM E.M0 H3 α') (MM E.W0 H3 α') H3 α' hMf hin3 (fun i l g vw u0 hvi hui=>by
  obtain⟨y,hy,hvr⟩:=hv.get hvi;rw[hui]at hy;cases hy;have h0:=vr_c0_inv hvr;have hco:∀l∈q.fr,∃A cap real,α l= .arr A cap real:=fun l hl=>by
   obtain⟨k,full,ho⟩:=hfr l hl;exact arr_co h ho
  have hk:∀w w':World,Keeps w (fun _ _=>True) w' (fun _ _=>True):=fun _ _ _ _ _ _ hn=>absurd trivial hn
  have h1:VR0 w (fun _ _=>True) (fun _ _=>True) S.heap α (.ref l g vw) u0:=h0;have h2:=VR0.mono (hk w w) (hk w w) (frz_goes q.fr S.heap α hco) _ _ h1;have h3:=VR0.mono (hk w w') (hk w w') hgo _ _ h2;exact h3.1)
 have hlen:=resR_length hres;have hbl:=hal.length;rw[htup]
 by_cases h1:ct.rs.length=1
 ·have hb:(!(ct.rs.length==1))=false:=by simp [h1]
  rw[hb]
  match bk,rs,hal,hlen,hbl with
  |([(ag,cs)],_),[v], .cons hv1 _,_,_=>exact hv1
  |([],_),[],_,hl,_=>rw[h1]at hl;cases hl
  |(_::_::_,_),_::_::_,_,hl,_=>rw[h1]at hl;simp at hl
 ·have hb:(!(ct.rs.length==1))=true:=by simp [h1]
  rw[hb];exact⟨rs,rfl,hal⟩
theorem step_shr (hct:CtsOk cx E.P E.gl) (h:Inv E S α a w) (hd:dstOk E.n o) {c:Call} (ho:o.op= .call c) {fo:Operand} (hc:c.callee= .value fo) {f:Nat} (hfo:a.eval fo= .func (.func f) #[] #[]) {s:IntKind×(List Int->Nat)} (hf2:find f cx.shr=some s) {vs:List AV}
  (hv:Al (VR (R0 E S.heap α w)) vs (c.args.toList.map a.eval)) (hs:(sShr o s vs).ev S=some us):Does E S a w o us:=by
 unfold sShr at hs;split at hs
 case h_2=>exact(fail_ev hs).elim
 rename_i l g;simp only[Cm.ev]at hs;split at hs
 case isFalse=>exact(fail_ev hs).elim
 rename_i hg;split at hs
 case h_2=>exact(fail_ev hs).elim
 rename_i ik full hob;split at hs
 case isFalse=>exact(fail_ev hs).elim
 rename_i hik;subst hik;simp only[Cm.ev]at hs;split at hs
 case isFalse=>cases hs
 rename_i hsz;have hus:=ret_ev (show(Cm.ret _).ev S=some us from hs);have hsz':List.length (α:=Int) full<=1000000000000:=of_decide_eq_true hsz;obtain⟨⟨fn,f1,f2,f3⟩,hruns⟩:=hct.2 f s hf2;generalize hargs:c.args.toList.map a.eval=args at hv;cases hv with
 |cons hv1 hnil=>
 cases hnil;obtain⟨uu,hu,hal,hlen0⟩:=hv1;cases hal with
 |cons hr hnil2=>
 cases hnil2;rename_i u0 u;have hu':u0=u:=hu;subst hu';obtain⟨⟨_,href⟩,_⟩:=hr;have href:=href hg;have hor:=h.obj l;rw[hob]at hor href
 match hα:α l,hor,href with
 | .arr A cap real,hor,href=>
 obtain⟨⟨c1,_⟩,c2,c3,c4,c5⟩:=hor;obtain⟨_,hsl⟩:=href;have hcr:cap=real:=c3 rfl;have hsl':SlAt A 0 (List.length (α:=Int) full) real u0:=by
  have e:voff none*(Kd.int s.1).sz=0:=by show 0*_=0;omega
  rw[e]at hsl;exact hsl
 have hcells:∀b o',A=some (b,o')->∀(i:Nat) (x:Int),full[i]? =some x->w.cell? ⟨b,o'+i,none⟩=some (.int s.1 x):=by
  intro b o' hA i x hx;obtain⟨es,e1,e2,_⟩:=(c5 b o' hA).1 i x hx;have e1':es=[.int s.1 x]:=e1;subst e1';have:=e2 0 _ rfl;have hz:(Kd.int s.1).sz=1:=rfl;rw[hz,Nat.mul_one]at this;exact this
 have hcalls:=hruns w u0 full A real hsz' hsl' c4 hcells;have hrun:(execOp a.eval o).run E.P w= .ok (.enter f #[u0]) w:=by
  have ha:c.args.map a.eval= #[u0]:=by
   apply Array.ext';rw[Array.toList_map,hargs]
  have f2':¬fn.name= "runtime.NumGoroutine" :=by simpa using f2
  have f3':¬fn.body=none:=fun e=>by rw[e]at f3;cases f3
  simp [execOp,ho,resolve,hc,hfo,Deferred.ofValue,invoke,callFunc,f1,f2',f3',ha]
 intro next Q hn;unfold Oper.wp;rw[hrun,Oper.upon_enter];refine hcalls.mono ?_
 rintro e w' ⟨rfl,hle,u',rfl,hone,hsl2⟩
 show next (a.put o.dst u') w';have hlen:(List.take (α:=Int) (s.2 full) full).length=s.2 full:=by rw[List.length_take];omega
 have hi:=h.one l (g+1) (.arr true false (.int s.1) (List.take (α:=Int) (s.2 full) full)) (.arr A cap real) (w':=w') (fun b i v hc _=>⟨hc,rfl⟩) h.fr
  (fun b i hf=> .inl (by
   rw[hob,hα];cases A with
   |none=>exact hf
   |some p=>exact hf)) (fun b i _ _ hm=>by rw[hob]at hm;cases hm) (fun hm=>by cases hm) (by omega) (fun e=>by omega) (fun M' Mb' H' α' k1 k2 hgo=>by
   refine⟨⟨?_,fun hm=>by cases hm⟩,c2,fun _=>hcr,c4,fun b oo hA=>⟨fun i x hx=> ?_,fun hz j hj=>(c5 b oo hA).2 rfl j hj⟩⟩
   ·show(List.take (α:=Int) (s.2 full) full).length<=cap;rw[hlen];exact Nat.le_trans hle c1
   ·have hx':full[i]? =some x:=by
     have hx2:(List.take (α:=Int) (s.2 full) full)[i]? =some x:=hx;rw[List.getElem?_take]at hx2;split at hx2
     ·exact hx2
     ·cases hx2
    refine⟨[.int s.1 x],rfl,fun j v hv=> ?_,fun hz=>by cases hz⟩;have hj:j=0:=by
     rcases Nat.eq_zero_or_pos j with e|e
     ·exact e
     ·rw[List.getElem?_eq_none (by simp;omega)]at hv;cases hv
    subst hj;cases hv;have hz:(Kd.int s.1).sz=1:=rfl;rw[hz,Nat.mul_one];exact hcells b oo hA i x hx')
 refine hn (fun m=>if m=l then .arr A cap real else α m) _ w' ?_;rw[<-hus,ups_cons];refine hi.dput hd (vr_c0 ⟨⟨?_,fun _=> ?_⟩,hone⟩)
 ·rw[up_set_heap];simp
 ·rw[up_set_heap];simp only[if_true];exact refAt_none (by rw[hlen];exact hsl2)
end
end Go.Cm
