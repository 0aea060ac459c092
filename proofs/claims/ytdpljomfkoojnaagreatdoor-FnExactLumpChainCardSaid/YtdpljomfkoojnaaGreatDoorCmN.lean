import Derived.Test.YtdpljomfkoojnaaGreatDoorCmM
set_option linter.unusedVariables false
namespace Go.Cm
theorem setCell_like (w:World) (b o:Nat) (v:Value):Fr (fun b' i=>b'=b/\i=o) w (w.setCell ⟨b,o,none⟩ v):=by
 refine⟨rfl,rfl,rfl,by simp [World.setCell],fun b' hb'=> ?_⟩
 by_cases hb:b'=b
 ·subst hb;simp only[World.setCell,Array.getElem?_modify,if_true];cases hq:w.heap[b']? with
  |none=>exact .inl rfl
  |some ob=>
   cases ob with
   |cells cs e z=>
    refine .inr ⟨cs,cs.setIfInBounds o v,e,z,rfl,by simp,by simp,fun i hi=> ?_⟩;have:¬o=i:=fun e=>hi ⟨trivial,e.symm⟩
    simp [this]
   |_=>exact .inl rfl
 ·exact .inl (Go.RowKit.Below.heap_setCell _ _ _ _ hb)
theorem Fr.sub {U U':Nat->Nat->Prop} {w w':World} (h:Fr U w w') (hu:∀b i,U b i->U' b i):Fr U' w w':=by
 refine⟨h.os,h.tape,h.output,h.size,fun b hb=> ?_⟩;rcases h.block b hb with h|⟨cs,cs',e,z,h1,h2,h3,h4⟩
 ·exact .inl h
 ·exact .inr ⟨cs,cs',e,z,h1,h2,h3,fun i hi=>h4 i (fun hq=>hi (hu b i hq))⟩
theorem setCells_like (b:Nat):∀(vs:List Value) (o:Nat) (w:World),Fr (fun b' i=>b'=b/\o<=i/\i<o+vs.length) w (w.setCells b o vs)
 | [],_,w=>Fr.refl _ w
 |v::r,o,w=>by
  have h1:=(setCell_like w b o v).sub (U':=fun b' i=>b'=b/\o<=i/\i<o+(v::r).length) (fun b' i h=>⟨h.1,by omega,by simp;omega⟩);have h2:=(setCells_like b r (o+1) (w.setCell ⟨b,o,none⟩ v)).sub (U':=fun b' i=>b'=b/\o<=i/\i<o+(v::r).length) (fun b' i h=>⟨h.1,by omega,by simp;omega⟩);exact h1.trans h2
theorem splice_length {α:Type} (xs ys:List α) (j:Nat) (h:j+ys.length<=xs.length):(splice xs ys j).length=xs.length:=by
 simp [splice];omega
theorem splice_get {α:Type} (xs ys:List α) (j i:Nat) (h:j+ys.length<=xs.length):(splice xs ys j)[i]? =if j<=i/\i<j+ys.length then ys[i - j]? else xs[i]? :=by
 simp only[splice,List.append_assoc];rw[List.getElem?_append];simp only[List.length_take]
 by_cases h1:i<j
 ·rw[if_pos (by omega),if_neg (by omega),List.getElem?_take,if_pos h1]
 ·rw[if_neg (by omega),List.getElem?_append];have hm:min j xs.length=j:=by omega
  rw[hm]
  by_cases h2:i - j<ys.length
  ·rw[if_pos h2,if_pos (by omega)]
  ·rw[if_neg h2,if_neg (by omega),List.getElem?_drop];congr 1;omega
theorem Al.splice {α β:Type} {R:α->β->Prop} {xs xs':List α} {ys ys':List β} (h:Al R xs ys) (h':Al R xs' ys') (j:Nat):Al R (splice xs xs' j) (splice ys ys' j):=by
 unfold Go.Cm.splice;rw[h'.length];exact((h.take j).append h').append (h.drop _)
theorem setCells_get (w:World) (b o:Nat) (vs:List Value) (hc:∀j,j<vs.length->(w.cell? ⟨b,o+j,none⟩).isSome=true) {j:Nat} {v:Value} (hv:vs[j]? =some v):(w.setCells b o vs).cell? ⟨b,o+j,none⟩=some v:=by
 obtain⟨hj,rfl⟩:=List.getElem?_eq_some_iff.1 hv;exact World.cell?_setCells_in b vs o w hc j hj
theorem setCells_out (w:World) (b o:Nat) (vs:List Value) {b' i:Nat} (h:¬(b'=b/\o<=i/\i<o+vs.length)):(w.setCells b o vs).cell? ⟨b',i,none⟩=w.cell? ⟨b',i,none⟩:=by
 refine World.cell?_setCells_out b vs o w _ (fun h1 _=> ?_);simp at h1 ⊢;omega
theorem okCells_one {R:A0->Value->Prop} (hR:∀c u,R c u->okC c=true->u.oneCell'=true) {cs:List A0} {us:List Value} (h:Al R cs us) (ho:okCells cs=true):∀u∈us,u.oneCell'=true:=by
 induction h with
 |nil=>simp
 |cons h t ih=>
  simp only[okCells,List.all_cons,Bool.and_eq_true]at ho;intro u hu;rcases List.mem_cons.1 hu with rfl|hu
  ·exact hR _ _ h ho.1
  ·exact ih ho.2 u hu
section
variable {cx:Cx} {E:En} {S:St} {α:Nat->CO} {a:Act} {w:World} {o:Oper} {us:List Up}
theorem r0_one (c:A0) (u:Value) (h:R0 E S.heap α w c u) (hc:okC c=true):u.oneCell'=true:=by
 cases c with
 |bot=>simp [okC]at hc
 |v x=>rw[show u=x from h];exact hc
 |sl fl k xs=>exact RdC.one (k:= .sl k) h u (by simp)
 |pt fl k x=>exact RdC.one (k:= .pt k) h u (by simp)
 |sv fl k xs n=>exact RdC.one (k:= .sv k) (x:=(xs,n)) h u (by simp)
 |er b=>exact RdC.one (w:=w) (M:=MM E.M0 S.heap α) (k:= .er) h u (by simp)
 |pm k x=>
  obtain⟨b,oo,es,rfl,_⟩:=h;simp [Value.oneCell']
 |ref l g vw=>exact h.2
 |pa l g i j=>exact h.2
 |pv l g j=>exact h.2
 |row l g rg i vw=>exact h.2
 |pr l g rg i e j=>exact h.2
theorem okc (h:Inv E S α a w) {cs:List A0} {vs:List Value} (hv:Al (R0 E S.heap α w) cs vs) (ho:okCells cs=true):∀u∈vs,u.oneCell'=true:=okCells_one r0_one hv ho
theorem cellsOf_al {v:AV} {u:Value} (hv:VR (R0 E S.heap α w) v u) (hl:(cellsOf v).length≠0):∃ag vs,v= .one ag (cellsOf v)/\u=enc ag vs/\Al (R0 E S.heap α w) (cellsOf v) vs/\(ag=false->vs.length=1):=by
 cases v with
 |one ag cs=>
  obtain⟨vs,h1,h2,h3⟩:=hv;exact⟨ag,vs,rfl,h1,h2,fun hg=>by rw[<-h2.length];exact h3 hg⟩
 |tup xs=>simp [cellsOf]at hl
theorem own_fr (h:Inv E S α a w) {l b j:Nat} {vs:List Value} (hf:∀i,i<vs.length->fp (S.heap l).2 (α l) b (j+i)):Fr E.W0 E.w0 (w.setCells b j vs):=by
 refine Fr.weaken (setCells_like b vs j w) h.fr.size ?_ h.fr
 rintro b' i hb ⟨rfl,h1,h2⟩
 have:=hf (i - j) (by omega);rw[show j+(i - j)=i by omega]at this;rcases h.new l _ _ this with h3|⟨h3,_⟩
 ·omega
 ·exact h3
theorem store_pa (h:Inv E S α a w) {l g i j:Nat} {mine:Bool} {k:Kd} {full:List k.Ty} {x:k.Ty} {vs es:List Value} {xo:Operand} {A:Option (Nat×Nat)} {cap real b oo n:Nat}
  (hob:(S.heap l).2= .arr mine false k full) (hg:(S.heap l).1=g) (hα:α l= .arr A cap real) (hi:i<full.length) (hA:A=some (b,oo)) (hx:a.eval xo= .pointer (some ⟨b,oo+i*k.sz+j,none⟩))
  (hnew:RdC w (MM E.M0 S.heap α) k (splice es vs j) x) (hel:es.length=k.sz) (q2:Cells0 w b (oo+i*k.sz) es) (hvl:vs.length=n) (hj:j+n<=k.sz)
  (hput:∀u,a.put o.dst u=a)
  (hgo:∀b j,a.eval xo= .pointer (some ⟨b,j,none⟩)->(∀u∈vs,u.oneCell'=true)->(∀i,i<vs.length->(w.cell? ⟨b,j+i,none⟩).isSome=true)->(∀i,i<vs.length->w.frozen? ⟨b,j+i,none⟩=false)->
   (execOp a.eval o).run E.P w= .ok .skip (w.setCells b j vs)):Does E S a w o [.set l g (.arr mine false k (full.set i x))]:=by
  have hor:=h.obj l;rw[hob,hα]at hor;obtain⟨c1,c2,c3,c4,c5⟩:=hor;obtain⟨c6,c7⟩:=c5 b oo hA;have hspl:(splice es vs j).length=k.sz:=by rw[splice_length _ _ _ (by omega)];exact hel
  have hcap:(i+1)*k.sz<=cap*k.sz:=Nat.mul_le_mul_right _ (by omega);rw[Nat.add_mul,Nat.one_mul]at hcap;have hone:∀u∈vs,u.oneCell'=true:=fun u hu=>RdC.one hnew u (by
   unfold splice;simp [hu])
  have hin:∀q,q<vs.length->(∃v,w.cell? ⟨b,oo+i*k.sz+j+q,none⟩=some v)/\w.frozen? ⟨b,oo+i*k.sz+j+q,none⟩=false:=by
   intro q hq;have:=c7 rfl (i*k.sz+j+q) (by omega);rwa [show oo+(i*k.sz+j+q)=oo+i*k.sz+j+q by omega]at this
  have hfp:∀q,q<vs.length->fp (S.heap l).2 (α l) b (oo+i*k.sz+j+q):=fun q hq=>by
   rw[hob,hα,hA];exact⟨rfl,by omega,by omega⟩
  have hrun:=hgo b _ hx hone (fun q hq=>by obtain⟨⟨v,hv⟩,_⟩:=hin q hq;rw[hv];rfl) (fun q hq=>(hin q hq).2);refine Does.skip (α':=fun m=>if m=l then .arr A cap real else α m) hrun ?_;rw[hput];refine h.one l g (.arr mine false k (full.set i x)) (.arr A cap real) ?_ (own_fr h hfp) ?_ ?_ (fun hm=>by rw[<-hα];exact h.frn l (by rw[hob];exact hm)) (by omega) (fun _=> ?_) ?_
  ·intro b' i' v' hc hn;refine⟨?_,World.frozen?_setCells _ _ _ _ _⟩;rw[setCells_out]
   ·exact hc
   ·rintro ⟨rfl,w1,w2⟩
    have:=hfp (i' - (oo+i*k.sz+j)) (by omega);rw[show oo+i*k.sz+j+(i' - (oo+i*k.sz+j))=i' by omega]at this;exact hn this
  ·intro b' i' hf'
   left
   rw[hob,hα];rw[hA]at hf' ⊢;exact hf'
  ·intro b' i' _ _ hm;rw[hob]at hm;exact hm
  ·rw[hob,hα];exact⟨rfl,by simp,rfl,rfl⟩
  ·intro M' Mb' H' α' k1 k2 hgo';refine⟨by simpa using c1,c2,c3,c4,fun b' o' hA'=>⟨fun i' x' hx'=> ?_,fun _ q hq=> ?_⟩⟩
   ·rw[hA]at hA';cases hA'
    by_cases hii:i'=i
    ·subst hii;rw[List.getElem?_set_self hi]at hx';cases hx';refine⟨splice es vs j,hnew.mono k1,fun q v hv=> ?_,fun hz=>by cases hz⟩;rw[splice_get _ _ _ _ (by omega)]at hv;split at hv
     ·rename_i hr;have:=setCells_get w b (oo+i'*k.sz+j) vs (fun q hq=>by obtain⟨⟨v,hv⟩,_⟩:=hin q hq;rw[hv];rfl) hv;rwa [show oo+i'*k.sz+j+(q - j)=oo+i'*k.sz+q by omega]at this
     ·rename_i hr;rw[setCells_out _ _ _ _ (fun hq=>hr ⟨by omega,by omega⟩)];exact q2 q v hv
    ·rw[List.getElem?_set_ne (Ne.symm hii)]at hx';obtain⟨es',s1,s2,s3⟩:=c6 i' x' hx';refine⟨es',s1.mono k1,fun q v hv=> ?_,fun hz=>by cases hz⟩;have hq:q<k.sz:=by rw[<-s1.len];exact(List.getElem?_eq_some_iff.1 hv).1
     rw[setCells_out]
     ·exact s2 q v hv
     ·rintro ⟨_,w1,w2⟩
      rcases Nat.lt_or_gt_of_ne hii with hlt|hgt
      ·have:(i'+1)*k.sz<=i*k.sz:=Nat.mul_le_mul_right _ (by omega);rw[Nat.add_mul,Nat.one_mul]at this;omega
      ·have:(i+1)*k.sz<=i'*k.sz:=Nat.mul_le_mul_right _ (by omega);rw[Nat.add_mul,Nat.one_mul]at this;omega
   ·rw[hA]at hA';cases hA';obtain⟨⟨v,s1⟩,s2⟩:=c7 rfl q hq;refine⟨?_,by rw[World.frozen?_setCells];exact s2⟩;exact(setCells_like b vs (oo+i*k.sz+j) w).some s1
structure Mems (w:World) (M:Nat->Nat->Prop) (k:Kd) (inn:List (List k.Ty)) (ms:List (Option (Nat×Nat)×Nat×Nat)):Prop where
 ml:ms.length=inn.length
 mem:∀(j:Nat) (xs:List k.Ty) (m:Option (Nat×Nat)×Nat×Nat),inn[j]? =some xs->ms[j]? =some m->MemOk w M k xs m
 dj:∀(j j':Nat) (m m':Option (Nat×Nat)×Nat×Nat) (b o:Nat),j≠j'->ms[j]? =some m->ms[j']? =some m'->seg k m b o->seg k m' b o->False
theorem _root_.Go.Cm.RowsOk.mems {w:World} {M:Nat->Nat->Prop} {mine:Bool} {k:Kd} {hdr:List (Nat×Nat)} {inn:List (List k.Ty)} {A:Option (Nat×Nat)} {cap real:Nat} {ms:List (Option (Nat×Nat)×Nat×Nat)} (R:RowsOk w M mine k hdr inn A cap real ms):Mems w M k inn ms:=⟨R.ml,R.mem,R.dj⟩
theorem Mems.mono {w w':World} {M M':Nat->Nat->Prop} {k:Kd} {inn:List (List k.Ty)} {ms:List (Option (Nat×Nat)×Nat×Nat)} (h:Mems w M k inn ms) (k1:Keeps w M w' M')
  (h4:∀m∈ms,∀b i v,seg k m b i->w.cell? ⟨b,i,none⟩=some v->w'.cell? ⟨b,i,none⟩=some v/\w'.frozen? ⟨b,i,none⟩=w.frozen? ⟨b,i,none⟩):Mems w' M' k inn ms:=
 ⟨h.ml,fun j xs m hx hm=>(h.mem j xs m hx hm).mono k1 (h4 m (List.mem_of_getElem? hm)),h.dj⟩
theorem Mems.app {w:World} {M:Nat->Nat->Prop} {k:Kd} {inn inn2:List (List k.Ty)} {ms ms2:List (Option (Nat×Nat)×Nat×Nat)} (h1:Mems w M k inn ms) (h2:Mems w M k inn2 ms2)
  (hx:∀m∈ms,∀m2∈ms2,∀b o,seg k m b o->seg k m2 b o->False):Mems w M k (inn++inn2) (ms++ms2):=by
 have hl:=h1.ml;refine⟨by rw[List.length_append,List.length_append,hl,h2.ml],fun j xs m hi hm=> ?_,fun j j' m m' b o hne hm hm' s s'=> ?_⟩
 ·rw[List.getElem?_append]at hi hm;split at hi
  ·rename_i hj;rw[if_pos (by omega)]at hm;exact h1.mem j xs m hi hm
  ·rename_i hj;rw[if_neg (by omega)]at hm;rw[hl]at hm;exact h2.mem _ xs m hi hm
 ·rw[List.getElem?_append]at hm hm';split at hm<;>split at hm'
  ·exact h1.dj j j' m m' b o hne hm hm' s s'
  ·exact hx m (List.mem_of_getElem? hm) m' (List.mem_of_getElem? hm') b o s s'
  ·exact hx m' (List.mem_of_getElem? hm') m (List.mem_of_getElem? hm) b o s' s
  ·exact h2.dj _ _ m m' b o (by omega) hm hm' s s'
theorem Mems.one {w:World} {M:Nat->Nat->Prop} {k:Kd} {xs:List k.Ty} {m:Option (Nat×Nat)×Nat×Nat} (h:MemOk w M k xs m):Mems w M k [xs] [m]:=by
 refine⟨rfl,fun j ys m' hi hm=> ?_,fun j j' m m' b o hne hm hm' _ _=> ?_⟩
 ·match j with
  |0=>
   simp at hi hm;subst hi hm;exact h
  |j+1=>simp at hi
 ·have h1:=(List.getElem?_eq_some_iff.1 hm).1;have h2:=(List.getElem?_eq_some_iff.1 hm').1;simp at h1 h2;omega
def memOf (A:Option (Nat×Nat)) (len real:Nat):Option (Nat×Nat)×Nat×Nat:=(if real=0 then none else A,len,real)
theorem arr_mem {w:World} {M Mb:Nat->Nat->Prop} {H:Nat->Nat×AO} {α:Nat->CO} {mine:Bool} {k:Kd} {full:List k.Ty} {A:Option (Nat×Nat)} {cap real:Nat} (h:OR w M Mb H α (.arr mine false k full) (.arr A cap real)):
  MemOk w M k full (memOf A full.length real)/\∀b o,seg k (memOf A full.length real) b o->fp (.arr mine false k full) (.arr A cap real) b o:=by
 obtain⟨c1,c2,c3,c4,c5⟩:=h;have hle:=c1.1;refine⟨⟨rfl,Nat.le_trans c1.1 c2,?_,fun b o hA=> ?_⟩,fun b o hs=> ?_⟩
 ·show(if real=0 then none else A)=none↔real=0
  by_cases h0:real=0
  ·simp [h0]
  ·simp only[h0,if_false,iff_false];exact fun hA=>h0 (c4 hA)
 ·have hA:(if real=0 then none else A)=some (b,o):=hA
  by_cases h0:real=0
  ·rw[if_pos h0]at hA;cases hA
  ·rw[if_neg h0]at hA;obtain⟨c6,c7⟩:=c5 b o hA;refine⟨fun i x hx=> ?_,fun j hj=>c7 rfl j ?_⟩
   ·obtain⟨es,e1,e2,_⟩:=c6 i x hx;exact⟨es,e1,e2⟩
   ·have:full.length*k.sz<=cap*k.sz:=Nat.mul_le_mul_right _ c1.1;omega
 ·obtain⟨oo,hA,h1,h2⟩:=hs;have hA:(if real=0 then none else A)=some (b,oo):=hA;have h2:o<oo+full.length*k.sz:=h2
  by_cases h0:real=0
  ·rw[if_pos h0]at hA;cases hA
  ·rw[if_neg h0]at hA;rw[hA];have:full.length*k.sz<=cap*k.sz:=Nat.mul_le_mul_right _ c1.1;exact⟨rfl,h1,by omega⟩
theorem slAt_mem {A:Option (Nat×Nat)} {n len real:Nat} {u:Value} (h:SlAt A 0 n real u):SlAt (memOf A len real).1 0 n real u:=by
 obtain⟨A',rfl,h1,h2⟩:=h;refine⟨A',rfl,h1,fun hc=> ?_⟩;obtain⟨b,o,h3,h4⟩:=h2 hc;refine⟨b,o,?_,h4⟩;show(if real=0 then none else A)=_;rw[if_neg (by omega)];exact h3
theorem _root_.Go.Cm.RowsOk.put {w w':World} {M M':Nat->Nat->Prop} {mine:Bool} {k:Kd} {hdr:List (Nat×Nat)} {inn inn':List (List k.Ty)} {A:Option (Nat×Nat)} {cap real:Nat} {ms ms':List (Option (Nat×Nat)×Nat×Nat)} (R:RowsOk w M mine k hdr inn A cap real ms)
  {b oo i:Nat} (hA:A=some (b,oo)) (hi:i<hdr.length) (Ms:Mems w' M' k inn' ms') (hms:∀(j:Nat) (m:Option (Nat×Nat)×Nat×Nat),ms[j]? =some m->ms'[j]? =some m) {p:Nat×Nat} {m:Option (Nat×Nat)×Nat×Nat} {u:Value}
  (hp:ms'[p.1]? =some m) (hle:p.2<=m.2.1) (hs:SlR k m p.2 u) (hin:w'.cell? ⟨b,oo+i,none⟩=some u) (hout:∀j,j≠i->w'.cell? ⟨b,oo+j,none⟩=w.cell? ⟨b,oo+j,none⟩) (hfz:∀j,w'.frozen? ⟨b,oo+j,none⟩=w.frozen? ⟨b,oo+j,none⟩)
  (hdO:∀m∈ms',∀b o oo,seg k m b o->A=some (b,oo)->oo<=o->o<oo+cap->False):RowsOk w' M' mine k (hdr.set i p) inn' A cap real ms':=by
 refine⟨by simpa using R.len,by simpa using R.full,R.cr,R.mcap,R.non,Ms.ml,fun j q hq=> ?_,fun b' o' hA'=> ?_,Ms.mem,Ms.dj,hdO⟩
 ·by_cases hj:j=i
  ·subst hj;rw[List.getElem?_set_self hi]at hq;cases hq;exact⟨m,hp,hle⟩
  ·rw[List.getElem?_set_ne (Ne.symm hj)]at hq;obtain⟨m',h1,h2⟩:=R.hd j q hq;exact⟨m',hms _ _ h1,h2⟩
 ·rw[hA]at hA';cases hA';obtain⟨c1,c2⟩:=R.cel b oo hA;refine⟨fun j q m' hq hm'=> ?_,fun j hj=> ?_⟩
  ·by_cases hj:j=i
   ·subst hj;rw[List.getElem?_set_self hi]at hq;cases hq;rw[hp]at hm';cases hm';exact⟨u,hin,hs⟩
   ·rw[List.getElem?_set_ne (Ne.symm hj)]at hq;obtain⟨m2,h1,h2⟩:=R.hd j q hq;rw[hms _ _ h1]at hm';cases hm';obtain⟨u',d1,d2⟩:=c1 j q _ hq h1;exact⟨u',by rw[hout j hj];exact d1,d2⟩
  ·obtain⟨⟨v,d1⟩,d2⟩:=c2 j hj;refine⟨?_,by rw[hfz];exact d2⟩
   by_cases hji:j=i
   ·subst hji;exact⟨u,hin⟩
   ·exact⟨v,by rw[hout j hji];exact d1⟩
theorem setCells_fz (w:World) (b o:Nat) (vs:List Value) (ad:Addr):(w.setCells b o vs).frozen? ad=w.frozen? ad:=World.frozen?_setCells _ _ _ _ _
theorem ups_take {S:St} {l l2 g g2:Nat} {ob:AO} (hne:l≠l2) (h2:(S.heap l2).1=g2):S.ups [.set l2 (g2+1) .no, .set l g ob]= {S with heap:=takeH S.heap l l2 g ob} :=by
 simp only[St.ups,List.foldl_cons,List.foldl_nil,St.up];congr 1;funext m;simp only[beq_iff,takeH]
 by_cases h1:m=l
 ·simp [h1]
 ·by_cases h3:m=l2<;>simp [h1,h3,h2]
theorem store_hd (h:Inv E S α a w) {l g i:Nat} {mine:Bool} {k:Kd} {rg:Nat} {hdr:List (Nat×Nat)} {inn:List (List k.Ty)} {xo:Operand} {cs:List A0} {vs:List Value}
  (hob:(S.heap l).2= .rows mine k rg hdr inn) (hg:(S.heap l).1=g) (hp:PaAt i 0 (a.eval xo) (S.heap l).2 (α l))
  (hput:∀u,a.put o.dst u=a)
  (hgo:∀b j,a.eval xo= .pointer (some ⟨b,j,none⟩)->(∀u∈vs,u.oneCell'=true)->(∀i,i<vs.length->(w.cell? ⟨b,j+i,none⟩).isSome=true)->(∀i,i<vs.length->w.frozen? ⟨b,j+i,none⟩=false)->
   (execOp a.eval o).run E.P w= .ok .skip (w.setCells b j vs))
  (hs:(match cs with
      | [.row l' g' rg' i' vw]=>if(l'=l/\g'=g)/\rg'=rg/\voff vw=0/\strict k=false then .ret [.set l g (.rows mine k rg (hdr.set i (i',vlen (inn.getD i' []) vw)) inn)]else .fail
      | [.ref l2 g2 vw]=>if mine=true/\voff vw=0 then .obj l2 fun o2=>if o2.1=g2 then(match o2.2 with
        | .arr true false k2 full=>if strict k=true then(if h:Kd.st k2=k then .test (decide (List.length (α:=k2.Ty) full=0)) .fail (.ret [.set l2 (g2+1) .no, .set l g (.rows mine k rg (hdr.set i (inn.length,vlen full vw)) (inn++[castL (k':= .sl (.st k2)) (k:= .sl k) (by rw[h]) full]))])else .fail)
          else if h:k2=k then .ret [.set l2 (g2+1) .no, .set l g (.rows mine k rg (hdr.set i (inn.length,vlen full vw)) (inn++[castL (k':= .sl k2) (k:= .sl k) (by rw[h]) full]))]else .fail
        |_=> .fail)else .fail else .fail
      |_=> .fail:Cm (List Up)).ev S=some us) (hv3:Al (R0 E S.heap α w) cs vs):Does E S a w o us:=by
 obtain⟨A,cap,real,ms,hα,R⟩:=rows_co h hob;rw[hob,hα]at hp;obtain⟨hi,b,oo,hA,hx⟩:=hp;rw[Nat.add_zero]at hx;have hic:i<cap:=Nat.lt_of_lt_of_le hi R.len;obtain⟨⟨v0,hv0⟩,hz0⟩:=(R.cel b oo hA).2 i hic;have hfp0:fp (S.heap l).2 (α l) b (oo+i):=by
  rw[hob,hα];exact .inl ⟨oo,hA,by omega,by omega⟩
 split at hs
 ·
  rename_i l' g' rg' i' vw;split at hs
  case isFalse=>exact(fail_ev hs).elim
  rename_i hc;obtain⟨⟨rfl,rfl⟩,rfl,hvw,hst0⟩:=hc;rw[<-ret_ev hs];cases hv3 with
  | @cons _ u _ _ hr hn=>
  cases hn;have hrow:=hr.1.2 hg;rw[hob,hα]at hrow;obtain⟨m,xs,h1,h2,h3,h4⟩:=hrow.2 rfl;have hxs:inn.getD i' []=xs:=by simp [h2]
  rw[hxs];rw[hvw,Nat.zero_mul,Nat.sub_zero]at h4;have hM:=R.mem i' xs m h2 h1
  have hrun:=hgo b (oo+i) hx (by simpa using hr.2) (fun q hq=>by
   have:q=0:=by simpa using hq
   subst this;rw[Nat.add_zero,hv0];rfl) (fun q hq=>by
   have:q=0:=by simpa using hq
   subst this;exact hz0)
  have hcell:∀b' i' v',w.cell? ⟨b',i',none⟩=some v'->¬(b'=b/\i'=oo+i)->(w.setCells b (oo+i) [u]).cell? ⟨b',i',none⟩=some v'/\(w.setCells b (oo+i) [u]).frozen? ⟨b',i',none⟩=w.frozen? ⟨b',i',none⟩:=by
   intro b' i' v' hc hn;refine⟨?_,setCells_fz _ _ _ _ _⟩;rw[setCells_out]
   ·exact hc
   ·rintro ⟨rfl,q1,q2⟩
    exact hn ⟨rfl,by simp at q2;omega⟩
  refine Does.skip (α':=fun q=>if q=l' then .rows A cap real ms else α q) hrun ?_;rw[hput]
  refine h.one l' g' _ (.rows A cap real ms) (fun b' i' v' hc hn=>hcell b' i' v' hc (fun hq=>hn (by rw[hq.1,hq.2];exact hfp0))) (own_fr h (fun q hq=>by
    have:q=0:=by simpa using hq
    subst this;exact hfp0)) ?_ ?_ (fun hm=>by rw[<-hα];exact h.frn l' (by rw[hob];exact hm)) (by omega) (fun _=> ?_) ?_
  ·intro b' i' hf'
   left
   rw[hob,hα];exact hf'
  ·intro b' i' _ _ hm;rw[hob]at hm;exact hm
  ·rw[hob,hα];exact⟨⟨rfl,by simp,rfl,rfl⟩,Nat.le_refl _,fun _ i m xs hm hx=>⟨hm,xs,hx,rfl⟩⟩
  ·intro M' Mb' H' α' k1 k2 hgo';refine R.put hA hi (R.mems.mono k1 (fun m hm b' i' v' hsg hc=>hcell b' i' v' hc (fun hq=> ?_))) (fun j m hm=>hm) (p:=(i',vlen xs vw)) h1 (by rw[hM.1];omega) ⟨h4,fun e=>by rw[hst0]at e;cases e⟩ ?_ (fun j hj=> ?_) (fun j=>setCells_fz _ _ _ _ _) R.dO
   ·rw[hq.1,hq.2]at hsg;exact R.dO m hm b _ oo hsg hA (by omega) (by omega)
   ·have:=setCells_get w b (oo+i) [u] (fun q hq=>by
     have:q=0:=by simpa using hq
     subst this;rw[Nat.add_zero,hv0];rfl) (j:=0) (v:=u) rfl
    simpa using this
   ·rw[setCells_out]
    rintro ⟨_,q1,q2⟩
    simp at q2;omega
 ·
  rename_i l2 g2 vw;split at hs
  case isFalse=>exact(fail_ev hs).elim
  rename_i hc;obtain⟨hmine,hvw⟩:=hc;simp only[Cm.ev]at hs;split at hs
  case isFalse=>exact(fail_ev hs).elim
  rename_i hg2;split at hs
  case h_2=>exact(fail_ev hs).elim
  rename_i k2 full hob2;cases hv3 with
  | @cons _ u _ _ hr hn=>
  cases hn;have href:=hr.1.2 hg2;have hor2:=h.obj l2;obtain⟨A2,cap2,real2,hα2⟩:=arr_co h hob2;rw[hob2,hα2]at href hor2;obtain⟨g1,g3⟩:=href;rw[hvw,Nat.zero_mul,Nat.sub_zero]at g3;obtain⟨hM2,hseg⟩:=arr_mem hor2;have hne:l≠l2:=by
   intro e;rw[e,hob2]at hob;cases hob
  have hseg':∀b o,seg k2 (memOf A2 full.length real2) b o->fp (S.heap l2).2 (α l2) b o:=fun b o hs=>by
   rw[hob2,hα2];exact hseg b o hs
  have key:∀(xs:List k.Ty),MemOk w (MM E.M0 S.heap α) k xs (memOf A2 xs.length real2)->(∀b o,seg k (memOf A2 xs.length real2) b o->fp (S.heap l2).2 (α l2) b o)->vlen xs vw<=xs.length->SlAt A2 0 (vlen xs vw) real2 u->(strict k=true->xs.length≠0)->
    Does E S a w o [.set l2 (g2+1) .no, .set l g (.rows mine k rg (hdr.set i (inn.length,vlen xs vw)) (inn++[xs]))]:=by
   intro xs hM2 hseg g1 g3 hst;have hdsj:∀b o,seg k (memOf A2 xs.length real2) b o->fp (S.heap l).2 (α l) b o->False:=by
    intro b o hs hf;exact h.dsj l l2 b o hne hf (hseg b o hs)
   have hrun:=hgo b (oo+i) hx (by simpa using hr.2) (fun q hq=>by
    have:q=0:=by simpa using hq
    subst this;rw[Nat.add_zero,hv0];rfl) (fun q hq=>by
    have:q=0:=by simpa using hq
    subst this;exact hz0)
   have hcell:∀b' i' v',w.cell? ⟨b',i',none⟩=some v'->¬(b'=b/\i'=oo+i)->(w.setCells b (oo+i) [u]).cell? ⟨b',i',none⟩=some v'/\(w.setCells b (oo+i) [u]).frozen? ⟨b',i',none⟩=w.frozen? ⟨b',i',none⟩:=by
    intro b' i' v' hc hn;refine⟨?_,setCells_fz _ _ _ _ _⟩;rw[setCells_out]
    ·exact hc
    ·rintro ⟨rfl,q1,q2⟩
     exact hn ⟨rfl,by simp at q2;omega⟩
   have hmsl:ms.length=inn.length:=R.ml;refine Does.skip (α':=fun q=>if q=l then .rows A cap real (ms++[memOf A2 xs.length real2])else if q=l2 then .no else α q) hrun ?_;rw[hput,ups_take hne hg2]
   refine h.take hne (by rw[hob2];rfl) g _ _ (fun b' i' v' hc hn=>hcell b' i' v' hc (fun hq=>hn (by rw[hq.1,hq.2];exact hfp0))) (own_fr h (fun q hq=>by
     have:q=0:=by simpa using hq
     subst this;exact hfp0)) ?_ hmine (by omega) (fun _=> ?_) ?_
   ·intro b' i' hf';rcases hf' with hf'|⟨m,hm,hs⟩
    ·refine .inl ⟨?_,by rw[hob];exact hmine⟩;rw[hob,hα];exact .inl hf'
    ·rcases List.mem_append.1 hm with hm|hm
     ·refine .inl ⟨?_,by rw[hob];exact hmine⟩;rw[hob,hα];exact .inr ⟨m,hm,hs⟩
     ·simp at hm;subst hm;refine .inr (.inl ?_);exact hseg b' i' hs
   ·rw[hob,hα];refine⟨⟨rfl,by simp,rfl,rfl⟩,Nat.le_refl _,fun _ i m xs hm hx=>⟨?_,xs,?_,rfl⟩⟩
    ·rw[List.getElem?_append_left (List.getElem?_eq_some_iff.1 hm).1];exact hm
    ·rw[List.getElem?_append_left (List.getElem?_eq_some_iff.1 hx).1];exact hx
   ·intro M' Mb' H' α' k1 kb;have Ms:Mems w (MM E.M0 S.heap α) k (inn++[xs]) (ms++[memOf A2 xs.length real2]):=R.mems.app (.one hM2) (fun m hm m2 hm2 b o h1 h2=>by
     simp at hm2;subst hm2;refine hdsj b o h2 ?_;rw[hob,hα];exact .inr ⟨m,hm,h1⟩)
    refine R.put hA hi (Ms.mono k1 (fun m hm b' i' v' hsg hc=>hcell b' i' v' hc (fun hq=> ?_))) (fun j m hm=> ?_) (p:=(inn.length,vlen xs vw)) (m:=memOf A2 xs.length real2) (u:=u) ?_ ?_ ⟨slAt_mem g3,fun e e2=>absurd e2 (hst e)⟩ ?_ (fun j hj=> ?_) (fun j=>setCells_fz _ _ _ _ _) ?_
    ·rw[hq.1,hq.2]at hsg;rcases List.mem_append.1 hm with hm|hm
     ·exact R.dO m hm b _ oo hsg hA (by omega) (by omega)
     ·simp at hm;subst hm;exact hdsj _ _ hsg hfp0
    ·rw[List.getElem?_append_left (List.getElem?_eq_some_iff.1 hm).1];exact hm
    ·show(ms++[memOf A2 xs.length real2])[inn.length]? =_;rw[<-hmsl];simp
    ·show vlen xs vw<=xs.length;omega
    ·have:=setCells_get w b (oo+i) [u] (fun q hq=>by
      have:q=0:=by simpa using hq
      subst this;rw[Nat.add_zero,hv0];rfl) (j:=0) (v:=u) rfl
     simpa using this
    ·rw[setCells_out]
     rintro ⟨_,q1,q2⟩
     simp at q2;omega
    ·intro m hm b' o' oo' hsg hA' q1 q2;rcases List.mem_append.1 hm with hm|hm
     ·exact R.dO m hm b' o' oo' hsg hA' q1 q2
     ·simp at hm;subst hm;refine hdsj b' o' hsg ?_;rw[hob,hα];exact .inl ⟨oo',hA',q1,q2⟩
  split at hs
  ·rename_i hst;split at hs
   case isFalse=>exact(fail_ev hs).elim
   rename_i hk;subst hk;simp only[Cm.ev]at hs;split at hs
   ·cases hs
   rename_i h0;have hs:=Option.some.inj hs;rw[<-hs];simp only[castL_rfl];exact key full hM2 hseg' (by rw[hvw,Nat.zero_add]at g1;exact g1) g3 (fun _ e=>h0 (decide_eq_true e))
  ·rename_i hst;split at hs
   case isFalse=>exact(fail_ev hs).elim
   rename_i hk;subst hk;rw[<-ret_ev hs];simp only[castL_rfl];exact key full hM2 hseg' (by rw[hvw,Nat.zero_add]at g1;exact g1) g3 (fun e=>absurd e hst)
 ·exact(fail_ev hs).elim
theorem store_pr (h:Inv E S α a w) {l g i e j:Nat} {mine:Bool} {k:Kd} {rg:Nat} {hdr:List (Nat×Nat)} {inn:List (List k.Ty)} {xs:List k.Ty} {x:k.Ty} {vs es:List Value} {xo:Operand} {A:Option (Nat×Nat)} {cap real b oo n:Nat} {ms:List (Option (Nat×Nat)×Nat×Nat)} {m:Option (Nat×Nat)×Nat×Nat}
  (hob:(S.heap l).2= .rows mine k rg hdr inn) (hg:(S.heap l).1=g) (hα:α l= .rows A cap real ms) (R:RowsOk w (MM E.M0 S.heap α) mine k hdr inn A cap real ms) (h1:ms[i]? =some m) (h2:inn[i]? =some xs) (h3:e<xs.length) (h4:m.1=some (b,oo)) (hx:a.eval xo= .pointer (some ⟨b,oo+e*k.sz+j,none⟩))
  (hnew:RdC w (MM E.M0 S.heap α) k (splice es vs j) x) (hel:es.length=k.sz) (q2:Cells0 w b (oo+e*k.sz) es) (hvl:vs.length=n) (hj:j+n<=k.sz)
  (hput:∀u,a.put o.dst u=a)
  (hgo:∀b j,a.eval xo= .pointer (some ⟨b,j,none⟩)->(∀u∈vs,u.oneCell'=true)->(∀i,i<vs.length->(w.cell? ⟨b,j+i,none⟩).isSome=true)->(∀i,i<vs.length->w.frozen? ⟨b,j+i,none⟩=false)->
   (execOp a.eval o).run E.P w= .ok .skip (w.setCells b j vs)):Does E S a w o [.set l g (.rows mine k rg hdr (inn.set i (xs.set e x)))]:=by
 obtain⟨a1,a2,a3,a4⟩:=R.mem i xs m h2 h1;obtain⟨c6,c7⟩:=a4 b oo h4;have hmem:=List.mem_of_getElem? h1;have hspl:(splice es vs j).length=k.sz:=by rw[splice_length _ _ _ (by omega)];exact hel
 have hcap:(e+1)*k.sz<=xs.length*k.sz:=Nat.mul_le_mul_right _ (by omega);rw[Nat.add_mul,Nat.one_mul]at hcap;have hone:∀u∈vs,u.oneCell'=true:=fun u hu=>RdC.one hnew u (by
  unfold splice;simp [hu])
 have hin:∀q,q<vs.length->(∃v,w.cell? ⟨b,oo+e*k.sz+j+q,none⟩=some v)/\w.frozen? ⟨b,oo+e*k.sz+j+q,none⟩=false:=by
  intro q hq;have:=c7 (e*k.sz+j+q) (by omega);rwa [show oo+(e*k.sz+j+q)=oo+e*k.sz+j+q by omega]at this
 have hsome:∀q,q<vs.length->(w.cell? ⟨b,oo+e*k.sz+j+q,none⟩).isSome=true:=fun q hq=>by obtain⟨⟨v,hv⟩,_⟩:=hin q hq;rw[hv];rfl
 have hsg:∀q,q<vs.length->seg k m b (oo+e*k.sz+j+q):=fun q hq=>⟨oo,h4,by omega,by rw[a1];omega⟩
 have hfp:∀q,q<vs.length->fp (S.heap l).2 (α l) b (oo+e*k.sz+j+q):=fun q hq=>by
  rw[hob,hα];exact .inr ⟨m,hmem,hsg q hq⟩
 have hrun:=hgo b _ hx hone hsome (fun q hq=>(hin q hq).2);have hout:∀b' i' v',w.cell? ⟨b',i',none⟩=some v'->¬(b'=b/\oo+e*k.sz+j<=i'/\i'<oo+e*k.sz+j+vs.length)->(w.setCells b (oo+e*k.sz+j) vs).cell? ⟨b',i',none⟩=some v'/\(w.setCells b (oo+e*k.sz+j) vs).frozen? ⟨b',i',none⟩=w.frozen? ⟨b',i',none⟩:=by
  intro b' i' v' hc hn;refine⟨?_,setCells_fz _ _ _ _ _⟩;rw[setCells_out _ _ _ _ hn];exact hc
 have hseg:∀i',oo+e*k.sz+j<=i'->i'<oo+e*k.sz+j+vs.length->seg k m b i':=by
  intro i' w1 w2;have:=hsg (i' - (oo+e*k.sz+j)) (by omega);rwa [show oo+e*k.sz+j+(i' - (oo+e*k.sz+j))=i' by omega]at this
 refine Does.skip (α':=fun m=>if m=l then .rows A cap real ms else α m) hrun ?_;rw[hput];refine h.one l g (.rows mine k rg hdr (inn.set i (xs.set e x))) (.rows A cap real ms) ?_ (own_fr h hfp) ?_ ?_ (fun hm=>by rw[<-hα];exact h.frn l (by rw[hob];exact hm)) (by omega) (fun _=> ?_) ?_
 ·intro b' i' v' hc hn;refine hout b' i' v' hc ?_
  rintro ⟨rfl,w1,w2⟩
  refine hn ?_;rw[hob,hα];exact .inr ⟨m,hmem,hseg i' w1 w2⟩
 ·intro b' i' hf'
  left
  rw[hob,hα];exact hf'
 ·intro b' i' _ _ hm;rw[hob]at hm;exact hm
 ·rw[hob,hα];refine⟨⟨rfl,rfl,rfl,rfl⟩,Nat.le_refl _,fun _ q m' ys hm hy=>⟨hm,?_⟩⟩
  by_cases hq:q=i
  ·subst hq;rw[h2]at hy;cases hy;exact⟨xs.set e x,by rw[List.getElem?_set_self (List.getElem?_eq_some_iff.1 h2).1],by simp⟩
  ·exact⟨ys,by rw[List.getElem?_set_ne (Ne.symm hq)];exact hy,rfl⟩
 ·intro M' Mb' H' α' k1 kb hgo';refine⟨R.len,R.full,R.cr,R.mcap,R.non,by simpa using R.ml,R.hd,fun b' o' hA=> ?_,fun q ys m' hy hm=> ?_,R.dj,R.dO⟩
  ·obtain⟨d1,d2⟩:=R.cel b' o' hA;have hne:∀q,q<cap->¬(b'=b/\oo+e*k.sz+j<=o'+q/\o'+q<oo+e*k.sz+j+vs.length):=by
    rintro q hq ⟨rfl,w1,w2⟩
    exact R.dO m hmem b' (o'+q) o' (hseg _ w1 w2) hA (by omega) (by omega)
   refine⟨fun q p m' hp hm=> ?_,fun q hq=> ?_⟩
   ·obtain⟨u,f1,f2⟩:=d1 q p m' hp hm;have hql:q<hdr.length:=(List.getElem?_eq_some_iff.1 hp).1;have:=R.len;exact⟨u,(hout b' _ u f1 (hne q (by omega))).1,f2⟩
   ·obtain⟨⟨v,f1⟩,f2⟩:=d2 q hq;have:=hout b' _ v f1 (hne q hq);exact⟨⟨v,this.1⟩,by rw[this.2];exact f2⟩
  ·by_cases hq:q=i
   ·subst hq;rw[List.getElem?_set_self (List.getElem?_eq_some_iff.1 h2).1]at hy;cases hy;rw[h1]at hm;cases hm;refine⟨by simpa using a1,by simpa using a2,a3,fun b' o' hA'=> ?_⟩;rw[h4]at hA';cases hA';refine⟨fun i' x' hx'=> ?_,fun q' hq'=> ?_⟩
    ·by_cases hii:i'=e
     ·subst hii;rw[List.getElem?_set_self h3]at hx';cases hx';refine⟨splice es vs j,hnew.mono k1,fun q v hv=> ?_⟩;rw[splice_get _ _ _ _ (by omega)]at hv;split at hv
      ·rename_i hr;have:=setCells_get w b (oo+i'*k.sz+j) vs hsome hv;rwa [show oo+i'*k.sz+j+(q - j)=oo+i'*k.sz+q by omega]at this
      ·rename_i hr;rw[setCells_out _ _ _ _ (fun hq=>hr ⟨by omega,by omega⟩)];exact q2 q v hv
     ·rw[List.getElem?_set_ne (Ne.symm hii)]at hx';obtain⟨es',s1,s2⟩:=c6 i' x' hx';refine⟨es',s1.mono k1,fun q v hv=> ?_⟩;have hq:q<k.sz:=by rw[<-s1.len];exact(List.getElem?_eq_some_iff.1 hv).1
      rw[setCells_out]
      ·exact s2 q v hv
      ·rintro ⟨_,w1,w2⟩
       rcases Nat.lt_or_gt_of_ne hii with hlt|hgt
       ·have:(i'+1)*k.sz<=e*k.sz:=Nat.mul_le_mul_right _ (by omega);rw[Nat.add_mul,Nat.one_mul]at this;omega
       ·have:(e+1)*k.sz<=i'*k.sz:=Nat.mul_le_mul_right _ (by omega);rw[Nat.add_mul,Nat.one_mul]at this;omega
    ·obtain⟨⟨v,s1⟩,s2⟩:=c7 q' (by simpa using hq');exact⟨(setCells_like b vs (oo+e*k.sz+j) w).some s1,by rw[World.frozen?_setCells];exact s2⟩
   ·rw[List.getElem?_set_ne (Ne.symm hq)]at hy;refine(R.mem q ys m' hy hm).mono k1 (fun b' i' v' hs hc=>hout b' i' v' hc ?_)
    rintro ⟨rfl,w1,w2⟩
    exact R.dj q i m' m b' i' hq hm h1 hs (hseg i' w1 w2)
theorem step_store (ht:TdsOk cx E.P) (h:Inv E S α a w) {t:Nat} {x y:Operand} (ho:o.op= .store t x y) (hdst:o.dst=none)
  (hs:((opnd x).bind fun va=>(opnd y).bind fun vx=>sg va fun a=>sStore cx t a vx).ev S=some us):Does E S a w o us:=by
 obtain⟨va,h1,h2⟩:=bind_ev hs;obtain⟨vx,h3,h4⟩:=bind_ev h2;obtain⟨c,rfl,h5⟩:=sg_ev h4;have e1:=opnd_c h h1;have e2:=opnd_sound h h3;unfold sStore at h5;obtain⟨d,hf,h6⟩:=tdOf_ev h5;clear hs h2 h4 h5;split at h6
 case isFalse=>exact(fail_ev h6).elim
 rename_i hlen;have hpos:=Kd.sz_pos d.k;obtain⟨ag,vs,hv1,hv2,hv3,hv4⟩:=cellsOf_al e2 (by omega);have hvl:vs.length=d.k.sz:=by rw[<-hv3.length,hlen]
 have hput:∀u,a.put o.dst u=a:=fun u=>by rw[hdst];rfl
 have hgo:∀b j,a.eval x= .pointer (some ⟨b,j,none⟩)->(∀u∈vs,u.oneCell'=true)->(∀i,i<vs.length->(w.cell? ⟨b,j+i,none⟩).isSome=true)->(∀i,i<vs.length->w.frozen? ⟨b,j+i,none⟩=false)->
   (execOp a.eval o).run E.P w= .ok .skip (w.setCells b j vs):=by
  intro b j hx h1 h2 h3;have:=run_storeVar (ht t d hf) hv2 hvl hv4 h1 h2 h3;simp [execOp,ho,hx,Instr.storeAt,Instr.sureAddr,this]
 cases c<;>try exact(fail_ev h6).elim
 case pv l g j=>
  simp only[Cm.ev]at h6;split at h6
  case isFalse=>exact(fail_ev h6).elim
  rename_i hg;split at h6
  case h_2=>exact(fail_ev h6).elim
  rename_i cs hob;split at h6
  case isFalse=>exact(fail_ev h6).elim
  rename_i hj;obtain⟨hj,hok⟩:=hj;have hor:=h.obj l;have hp:=e1.1.2 hg;obtain⟨b,hα⟩:=vars_co h hob;rw[hob,hα]at hor hp;obtain⟨ws,w1,w2⟩:=hor;have hwl:=w1.length;have hone:=okc h hv3 hok;have hin:∀i,i<vs.length->w.cell? ⟨b,j+i,none⟩=ws[j+i]? /\(w.cell? ⟨b,j+i,none⟩).isSome=true/\w.frozen? ⟨b,j+i,none⟩=false:=by
   intro i hi;have hlt:j+i<ws.length:=by omega
   obtain⟨q1,q2,q3⟩:=w2 (j+i) ws[j+i] (by simp [hlt]);exact⟨by rw[q1];simp [hlt],by rw[q1];rfl,q2⟩
  have hrun:=hgo b j hp hone (fun i hi=>(hin i hi).2.1) (fun i hi=>(hin i hi).2.2);have hfp:∀i,i<vs.length->fp (S.heap l).2 (α l) b (j+i):=fun i hi=>by
   rw[hob,hα];exact⟨rfl,by omega⟩
  rw[<-ret_ev h6];refine Does.skip (α':=fun m=>if m=l then .vars b else α m) hrun ?_;rw[hput];refine h.one l g (.vars (splice cs (cellsOf vx) j)) (.vars b) ?_ (own_fr h hfp) ?_ ?_ (fun hm=>by cases hm) (by omega) (fun _=> ?_) ?_
  ·intro b' i' v' hc hn;refine⟨?_,World.frozen?_setCells _ _ _ _ _⟩;rw[setCells_out]
   ·exact hc
   ·rintro ⟨rfl,q1,q2⟩
    have:=hfp (i' - j) (by omega);rw[show j+(i' - j)=i' by omega]at this;exact hn this
  ·intro b' i' hf'
   left
   rw[hob,hα];obtain⟨rfl,hf'⟩:=hf';rw[splice_length _ _ _ (by omega)]at hf';exact⟨rfl,hf'⟩
  ·intro b' i' _ _ hm;rw[hob]at hm;cases hm
  ·rw[hob,hα];exact⟨splice_length _ _ _ (by omega),rfl⟩
  ·intro M' Mb' H' α' k1 k2 hgo';refine⟨splice ws vs j,(w1.mono (VR0.mono k1 k2 hgo')).splice (hv3.mono (VR0.mono k1 k2 hgo')) j,fun i u hi=> ?_⟩;rw[splice_get _ _ _ _ (by omega)]at hi;split at hi
   ·rename_i hr;have:=setCells_get w b j vs (fun i hi=>(hin i hi).2.1) hi;rw[show j+(i - j)=i by omega]at this;refine⟨this,?_,hone u (List.mem_of_getElem? hi)⟩;rw[World.frozen?_setCells];have:=(hin (i - j) (by omega)).2.2;rwa [show j+(i - j)=i by omega]at this
   ·rename_i hr;obtain⟨q1,q2,q3⟩:=w2 i u hi;refine⟨?_,by rw[World.frozen?_setCells];exact q2,q3⟩;rw[setCells_out _ _ _ _ (fun hq=>hr hq.2)];exact q1
 case pa l g i j=>
  simp only[Cm.ev]at h6;split at h6
  case isFalse=>exact(fail_ev h6).elim
  rename_i hg;split at h6
  case h_3=>exact(fail_ev h6).elim
  case h_2 mine k rg hdr inn hob=>
   split at h6
   case isFalse=>exact(fail_ev h6).elim
   rename_i hj0;subst hj0;exact store_hd (xo:=x) h hob hg (e1.1.2 hg) hput hgo h6 hv3
  rename_i mine k full hob;split at h6
  case isFalse=>exact(fail_ev h6).elim
  rename_i hj;obtain⟨p,hp1,hp2⟩:=bind_ev h6;split at hp2
  ·exact(fail_ev hp2).elim
  rename_i hfr;obtain⟨fs,hfs,hp3⟩:=bind_ev hp2;rw[<-ret_ev hp3];have hor:=h.obj l;have hp:=e1.1.2 hg;obtain⟨A,cap,real,hα⟩:=arr_co h hob;rw[hob,hα]at hor hp;obtain⟨hi,b,oo,hA,hx⟩:=hp;obtain⟨c1,c2,c3,c4,c5⟩:=hor;obtain⟨c6,c7⟩:=c5 b oo hA;have hget:full[i]? =some (full.getD i k.dflt):=by simp [hi]
  obtain⟨es,q1,q2,q3⟩:=c6 i _ hget;have hel:=q1.len;have hal:Al (R0 E S.heap α w) (unpack false k (full.getD i k.dflt)) es:=unpack_rd (fl:=false) (x:=full.getD i k.dflt) q1;obtain⟨⟨u1,u2,r1,r2,r3,r4⟩,r5,r6⟩:=pack_sound h k false _ _ p hp1 (hal.splice hv3 j);have hspl:(splice es vs j).length=k.sz:=by rw[splice_length _ _ _ (by omega)];exact hel
  have hu2:u2=[]:=by
   have:=congrArg List.length r1;rw[hspl,List.length_append,r2]at this;exact List.eq_nil_of_length_eq_zero (by omega)
  subst hu2;rw[List.append_nil]at r1;obtain⟨av1,av2⟩:=frz_avoid h r5 E.M0 (fun _ _ h=>h);have hl:l∉p.fr:=fun hm=>hfr (List.any_eq_true.2 ⟨l,hm,by rw[beq_iff];simp⟩)
  have hnew:RdC w (MM E.M0 (frz p.fr S.heap) α) k (splice es vs j) p.x:=by
   rw[r1];refine r4 _ av1 (fun l' hl'=> ?_);rw[r6 rfl]at hl';rcases hl' with hl'|hl'
   ·exact av2 l' hl'
   ·simp at hl'
  have hS:S.ups (fs++[.set l g (.arr mine false k (full.set i p.x))])=({S with heap:=frz p.fr S.heap} :St).ups [.set l g (.arr mine false k (full.set i p.x))]:=by
   rw[ups_append,freezes_ups hfs];rfl
  have hd2:=store_pa (o:=o) (a:=a) (h:=frz_inv h r5) (l:=l) (g:=g) (i:=i) (j:=j) (mine:=mine) (full:=full) (x:=p.x) (vs:=vs) (es:=es) (xo:=x) (by simp only[frz,hl,if_false];exact hob) (by simp only[frz,hl,if_false];exact hg) hα hi hA hx hnew hel q2 hvl (by omega) hput hgo;intro next Q hn;refine hd2 next Q (fun α' a' w' hi'=>hn α' a' w' ?_);rw[hS];exact hi'
 case pr l g rg i e j=>
  simp only[Cm.ev]at h6;split at h6
  case isFalse=>exact(fail_ev h6).elim
  rename_i hg;split at h6
  case h_2=>exact(fail_ev h6).elim
  rename_i mine k rg' hdr inn hob;split at h6
  case isFalse=>exact(fail_ev h6).elim
  rename_i hj;obtain⟨hrg,hj⟩:=hj;obtain⟨p,hp1,hp2⟩:=bind_ev h6;obtain⟨fs,hfs,hp3⟩:=bind_ev hp2;rw[<-ret_ev hp3];have hp:=e1.1.2 hg;obtain⟨A,cap,real,ms,hα,R⟩:=rows_co h hob;rw[hob,hα]at hp;obtain⟨m,xs,b,oo,g1,g2,g3,g4,hx⟩:=hp.2 hrg;have hxs:inn.getD i []=xs:=by simp [g2]
  rw[hxs]at hp1 ⊢;obtain⟨es,q1,q2⟩:=((R.mem i xs m g2 g1).2.2.2 b oo g4).1 e (xs.getD e k.dflt) (by simp [g3]);have hel:=q1.len;have hal:Al (R0 E S.heap α w) (unpack false k (xs.getD e k.dflt)) es:=unpack_rd (fl:=false) (x:=xs.getD e k.dflt) q1;obtain⟨⟨u1,u2,r1,r2,r3,r4⟩,r5,r6⟩:=pack_sound h k false _ _ p hp1 (hal.splice hv3 j);have hspl:(splice es vs j).length=k.sz:=by rw[splice_length _ _ _ (by omega)];exact hel
  have hu2:u2=[]:=by
   have:=congrArg List.length r1;rw[hspl,List.length_append,r2]at this;exact List.eq_nil_of_length_eq_zero (by omega)
  subst hu2;rw[List.append_nil]at r1;obtain⟨av1,av2⟩:=frz_avoid h r5 E.M0 (fun _ _ h=>h);have hl:l∉p.fr:=fun hm=>by
   obtain⟨k',full,hq⟩:=r5 l hm;rw[hob]at hq;cases hq
  have hnew:RdC w (MM E.M0 (frz p.fr S.heap) α) k (splice es vs j) p.x:=by
   rw[r1];refine r4 _ av1 (fun l' hl'=> ?_);rw[r6 rfl]at hl';rcases hl' with hl'|hl'
   ·exact av2 l' hl'
   ·simp at hl'
  have hS:S.ups (fs++[.set l g (.rows mine k rg' hdr (inn.set i (xs.set e p.x)))])=({S with heap:=frz p.fr S.heap} :St).ups [.set l g (.rows mine k rg' hdr (inn.set i (xs.set e p.x)))]:=by
   rw[ups_append,freezes_ups hfs];rfl
  have hI2:=frz_inv h r5;have hob2:(frz p.fr S.heap l).2= .rows mine k rg' hdr inn:=by simp only[frz,hl,if_false];exact hob
  have R2:RowsOk w (MM E.M0 (frz p.fr S.heap) α) mine k hdr inn A cap real ms:=by
   have:=hI2.obj l;dsimp only at this;rw[hob2,hα]at this;exact this
  have hd2:=store_pr (o:=o) (a:=a) (h:=hI2) (l:=l) (g:=g) (i:=i) (e:=e) (j:=j) (mine:=mine) (rg:=rg') (x:=p.x) (vs:=vs) (es:=es) (xo:=x) hob2 (by simp only[frz,hl,if_false];exact hg) hα R2 g1 g2 g3 g4 hx hnew hel q2 hvl (by omega) hput hgo;intro next Q hn;refine hd2 next Q (fun α' a' w' hi'=>hn α' a' w' ?_);rw[hS];exact hi'
end
end Go.Cm
