import Derived.Test.YtdpljomfkoojnaaGreatDoorCmF
namespace Go.Cm
theorem Kd.sz_pos:∀k:Kd,0<k.sz
 | .int _| .bool| .str| .sl _| .pt _| .sv _| .er=>Nat.one_pos
 | .st f=>Kd.sz_pos f
 | .pair a _=>Nat.lt_of_lt_of_le (Kd.sz_pos a) (Nat.le_add_right _ _)
theorem castL_rfl {k:Kd} (x:k.Ty) (h:k=k):castL h x=x:=rfl
theorem look_length {α:Type} (xs:List α) (vw:Option (Nat×Nat)) (h:voff vw+vlen xs vw<=xs.length):(look xs vw).length=vlen xs vw:=by
 cases vw with
 |none=>rfl
 |some p=>simp [look,seen,vlen,voff]at*;omega
theorem look_get {α:Type} (xs:List α) (vw:Option (Nat×Nat)) {i:Nat} {x:α} (h:(look xs vw)[i]? =some x):xs[voff vw+i]? =some x/\i<vlen xs vw:=by
 cases vw with
 |none=>exact⟨by simpa [look,voff]using h,(List.getElem?_eq_some_iff.1 h).1⟩
 |some p=>
  simp only[look,seen,List.getElem?_take,List.getElem?_drop]at h;split at h
  ·exact⟨h,by simpa [vlen]⟩
  ·cases h
theorem MM.le {M0 W0:Nat->Nat->Prop} (h:∀b o,W0 b o->M0 b o) {H:Nat->Nat×AO} {α:Nat->CO} {b o:Nat} (h':MM W0 H α b o):MM M0 H α b o:=h'.imp (h b o) id
theorem unpack_rd {w:World} {M Mb:Nat->Nat->Prop} {H:Nat->Nat×AO} {α:Nat->CO} {fl:Bool} :∀ {k:Kd} {us:List Value} {x:k.Ty},RdC w (if fl=true then Mb else M) k us x->Al (VR0 w M Mb H α) (unpack fl k x) us
 | .int _,_,_,h=>by cases h;exact .cons rfl .nil
 | .bool,_,_,h=>by cases h;exact .cons rfl .nil
 | .str,_,_,h=>by cases h;exact .cons rfl .nil
 | .sl k,_,x,h=>by
  have h0:=h;obtain⟨A,c,rfl,_⟩:=h;exact .cons h0 .nil
 | .pt k,_,_,h=>by
  have h0:=h;obtain⟨b,o,es,rfl,_⟩:=h;exact .cons h0 .nil
 | .st f,_,_,h=>unpack_rd (k:=f) h
 | .pair a b,_,(x,y),h=>by
  obtain⟨c1,c2,rfl,h1,h2⟩:=h;exact(unpack_rd h1).append (unpack_rd h2)
 | .sv k,_,(xs,n),h=>by
  have h0:=h;obtain⟨A,c,rfl,_⟩:=h;exact .cons h0 .nil
 | .er,_,_,h=>by
  have h0:=h;obtain⟨v,rfl,_⟩:=h;exact .cons h0 .nil
section
variable {E:En} {S:St} {α:Nat->CO} {a:Act} {w:World}
theorem ref_reads (hI:Inv E S α a w) {l g:Nat} {vw:Option (Nat×Nat)} {u:Value} (hr:R0 E S.heap α w (.ref l g vw) u) (hg:(S.heap l).1=g) {mine fz:Bool} {k:Kd} {full:List k.Ty} (ho:(S.heap l).2= .arr mine fz k full)
  {U:Nat->Nat->Prop} (hU:∀b o,U b o->MM E.M0 S.heap α b o) (hl:fz=false->∀b o,U b o->¬fp (S.heap l).2 (α l) b o):RdC w U (.sl k) [u] (look full vw):=by
 have hr':=hr.1.2 hg;have hor:=hI.obj l;rw[ho]at hr' hor;cases hα:α l with
 |arr A cap real=>
  rw[hα]at hr' hor;obtain⟨h1,A',rfl,h2,h3⟩:=hr';obtain⟨c1,c2,c3,c4,c5⟩:=hor;have hlen:=look_length full vw h1;refine⟨A',real - voff vw,by rw[hlen],by rw[hlen];exact h2,fun hn=> ?_⟩;rw[hlen]at hn;obtain⟨b,o,hA,hA'⟩:=h3 (by omega);refine⟨b,o+voff vw*k.sz,hA',fun i x hx=> ?_⟩;obtain⟨hx1,hx2⟩:=look_get full vw hx;obtain⟨es,e1,e2,e3⟩:=(c5 b o hA).1 _ x hx1;refine⟨es,e1.mono (Keeps.less hU),fun j v hj=> ?_⟩;have hjl:j<k.sz:=by rw[<-e1.len];exact(List.getElem?_eq_some_iff.1 hj).1
  have hpos:o+voff vw*k.sz+i*k.sz+j=o+(voff vw+i)*k.sz+j:=by rw[Nat.add_mul];omega
  rw[hpos];refine⟨e2 j v hj,fun hu=> ?_⟩;cases fz with
  |true=>exact e3 rfl j hjl (hU _ _ hu)
  |false=>
   refine hl rfl _ _ hu ?_;rw[ho,hα,hA];refine⟨rfl,by omega,?_⟩;have hi:voff vw+i<full.length:=(List.getElem?_eq_some_iff.1 hx1).1;have:(voff vw+i+1)*k.sz<=cap*k.sz:=Nat.mul_le_mul_right _ (by omega);rw[Nat.add_mul (voff vw+i)]at this;omega
 |no=>rw[hα]at hor;exact hor.elim
 |rows A c r ms=>rw[hα]at hor;exact hor.elim
 |vars b=>rw[hα]at hor;exact hor.elim
theorem ref_reads_sv (hI:Inv E S α a w) {l g:Nat} {vw:Option (Nat×Nat)} {u:Value} (hr:R0 E S.heap α w (.ref l g vw) u) (hg:(S.heap l).1=g) {mine fz:Bool} {k:Kd} {full:List k.Ty} (ho:(S.heap l).2= .arr mine fz k full)
  {U:Nat->Nat->Prop} (hU:∀b o,U b o->MM E.M0 S.heap α b o) (hl:fz=false->∀b o,U b o->¬fp (S.heap l).2 (α l) b o):RdC w U (.sv k) [u] (full.drop (voff vw),vlen full vw):=by
 have hr':=hr.1.2 hg;have hor:=hI.obj l;rw[ho]at hr' hor;cases hα:α l with
 |arr A cap real=>
  rw[hα]at hr' hor;obtain⟨h1,A',rfl,h2,h3⟩:=hr';obtain⟨c1,c2,c3,c4,c5⟩:=hor;have hld:(full.drop (voff vw)).length=full.length - voff vw:=by simp
  refine⟨A',real - voff vw,rfl,⟨by rw[hld];omega,by rw[hld];omega⟩,fun hn=> ?_⟩;rw[hld]at hn;obtain⟨b,o,hA,hA'⟩:=h3 (by omega);refine⟨b,o+voff vw*k.sz,hA',fun i x hx=> ?_⟩;have hx1:full[voff vw+i]? =some x:=by rwa [List.getElem?_drop]at hx
  obtain⟨es,e1,e2,e3⟩:=(c5 b o hA).1 _ x hx1;refine⟨es,e1.mono (Keeps.less hU),fun j v hj=> ?_⟩;have hjl:j<k.sz:=by rw[<-e1.len];exact(List.getElem?_eq_some_iff.1 hj).1
  have hpos:o+voff vw*k.sz+i*k.sz+j=o+(voff vw+i)*k.sz+j:=by rw[Nat.add_mul];omega
  rw[hpos];refine⟨e2 j v hj,fun hu=> ?_⟩;cases fz with
  |true=>exact e3 rfl j hjl (hU _ _ hu)
  |false=>
   refine hl rfl _ _ hu ?_;rw[ho,hα,hA];refine⟨rfl,by omega,?_⟩;have hi:voff vw+i<full.length:=(List.getElem?_eq_some_iff.1 hx1).1;have:(voff vw+i+1)*k.sz<=cap*k.sz:=Nat.mul_le_mul_right _ (by omega);rw[Nat.add_mul (voff vw+i)]at this;omega
 |no=>rw[hα]at hor;exact hor.elim
 |rows A c r ms=>rw[hα]at hor;exact hor.elim
 |vars b=>rw[hα]at hor;exact hor.elim
theorem look_eq {β:Type} (xs:List β) (vw:Option (Nat×Nat)):look xs vw=(xs.drop (voff vw)).take (vlen xs vw):=by
 cases vw with
 |none=>simp [look,voff,vlen]
 |some p=>rfl
theorem mem_reads {M U:Nat->Nat->Prop} {k:Kd} {xs:List k.Ty} {m:Option (Nat×Nat)×Nat×Nat} (h:MemOk w M k xs m) (hU:∀b o,U b o->M b o) (hn:∀b o,U b o->¬seg k m b o)
  {off len:Nat} {u:Value} (hl:off+len<=xs.length) (hs:SlAt m.1 (off*k.sz) len (m.2.2 - off) u):RdC w U (.sv k) [u] (xs.drop off,len):=by
 obtain⟨a1,a2,a3,a4⟩:=h;obtain⟨A',rfl,s1,s2⟩:=hs;have hld:(xs.drop off).length=xs.length - off:=by simp
 refine⟨A',m.2.2 - off,rfl,⟨by rw[hld];omega,by rw[hld];omega⟩,fun hq=> ?_⟩;rw[hld]at hq;obtain⟨b,o,hA,hA'⟩:=s2 (by omega);refine⟨b,o+off*k.sz,hA',fun i x hx=> ?_⟩;rw[List.getElem?_drop]at hx;obtain⟨es,e1,e2⟩:=(a4 b o hA).1 _ x hx;refine⟨es,e1.mono (Keeps.less hU),fun j v hj=> ?_⟩;have hjl:j<k.sz:=by rw[<-e1.len];exact(List.getElem?_eq_some_iff.1 hj).1
 have hil:off+i<xs.length:=(List.getElem?_eq_some_iff.1 hx).1;have hpos:o+off*k.sz+i*k.sz+j=o+(off+i)*k.sz+j:=by rw[Nat.add_mul];omega
 rw[hpos];refine⟨e2 j v hj,fun hu=>hn _ _ hu ⟨o,hA,by omega,?_⟩⟩;have:(off+i+1)*k.sz<=m.2.1*k.sz:=Nat.mul_le_mul_right _ (by omega);rw[Nat.add_mul (off+i)]at this;omega
theorem rows_co (hI:Inv E S α a w) {l:Nat} {mine:Bool} {k:Kd} {rg:Nat} {hdr:List (Nat×Nat)} {inn:List (List k.Ty)} (ho:(S.heap l).2= .rows mine k rg hdr inn):
  ∃A cap real ms,α l= .rows A cap real ms/\RowsOk w (MM E.M0 S.heap α) mine k hdr inn A cap real ms:=by
 have:=hI.obj l;rw[ho]at this;cases hα:α l with
 |rows A cap real ms=>rw[hα]at this;exact⟨A,cap,real,ms,rfl,this⟩
 |arr A c r=>rw[hα]at this;exact this.elim
 |no=>rw[hα]at this;exact this.elim
 |vars b=>rw[hα]at this;exact this.elim
theorem nrm_length {β:Type} (hdr:List (Nat×Nat)) (inn:List (List β)):(nrm hdr inn).length=hdr.length:=by simp [nrm]
theorem rows_reads_sv (hI:Inv E S α a w) {l g:Nat} {vw:Option (Nat×Nat)} {u:Value} (hr:R0 E S.heap α w (.ref l g vw) u) (hg:(S.heap l).1=g) {mine:Bool} {k:Kd} {rg:Nat} {hdr:List (Nat×Nat)} {inn:List (List k.Ty)} (ho:(S.heap l).2= .rows mine k rg hdr inn)
  {U:Nat->Nat->Prop} (hU:∀b o,U b o->MM E.M0 S.heap α b o) (hl:∀b o,U b o->¬fp (S.heap l).2 (α l) b o):RdC w U (.sv (.sv k)) [u] ((nrm hdr inn).drop (voff vw),vlen (nrm hdr inn) vw):=by
 have hr':=hr.1.2 hg;obtain⟨A,cap,real,ms,hα,R⟩:=rows_co hI ho;rw[ho,hα]at hr' hl;obtain⟨h1,A',rfl,h2,h3⟩:=hr';have hv:vlen (nrm hdr inn) vw=vlen hdr vw:=vlen_eq (nrm_length hdr inn) vw;have hld:((nrm hdr inn).drop (voff vw)).length=hdr.length - voff vw:=by simp [nrm_length]
 have c1:=R.len;have c2:=R.cr;rw[hv];refine⟨A',real - voff vw,rfl,⟨by rw[hld];omega,by rw[hld];omega⟩,fun hn=> ?_⟩;rw[hld]at hn;obtain⟨b,o,hA,hA'⟩:=h3 (by omega);refine⟨b,o+voff vw,hA',fun i x hx=> ?_⟩;rw[List.getElem?_drop]at hx;have hx1:∃p,hdr[voff vw+i]? =some p/\(inn.getD p.1 [],p.2)=x:=by
  simp only[nrm,List.getElem?_map,Option.map_eq_some_iff]at hx;exact hx
 obtain⟨p,hp,rfl⟩:=hx1;obtain⟨m,hm,hle⟩:=R.hd _ p hp;obtain⟨u',hc,hs⟩:=(R.cel b o hA).1 _ p m hp hm;have hml:p.1<inn.length:=by rw[<-R.ml];exact(List.getElem?_eq_some_iff.1 hm).1
 have hinn:inn[p.1]? =some (inn.getD p.1 []):=by simp [hml]
 have hM:=R.mem p.1 _ m hinn hm;have hil:=(List.getElem?_eq_some_iff.1 hp).1;have hrd:=mem_reads (U:=U) hM hU (fun b o hu hs=>hl b o hu (.inr ⟨m,List.mem_of_getElem? hm,hs⟩)) (off:=0) (len:=p.2) (u:=u') (by rw[Nat.zero_add,<-hM.1];exact hle) (by simpa using hs.1);refine⟨[u'],by simpa using hrd,fun j v hj=> ?_⟩;have hj0:j=0:=by
  rcases Nat.eq_zero_or_pos j with e|e
  ·exact e
  ·rw[List.getElem?_eq_none (by simp;omega)]at hj;cases hj
 subst hj0;cases hj;have hpos:o+voff vw+i*(Kd.sv k).sz+0=o+(voff vw+i):=by simp [Kd.sz];omega
 rw[hpos];exact⟨hc,fun hu=>hl _ _ hu (.inl ⟨o,hA,by omega,by omega⟩)⟩
theorem rows_reads (hI:Inv E S α a w) {l g:Nat} {vw:Option (Nat×Nat)} {u:Value} (hr:R0 E S.heap α w (.ref l g vw) u) (hg:(S.heap l).1=g) {mine:Bool} {k:Kd} {rg:Nat} {hdr:List (Nat×Nat)} {inn:List (List k.Ty)} (ho:(S.heap l).2= .rows mine k rg hdr inn)
  {U:Nat->Nat->Prop} (hU:∀b o,U b o->MM E.M0 S.heap α b o) (hl:∀b o,U b o->¬fp (S.heap l).2 (α l) b o):RdC w U (.sl (.sv k)) [u] (look (nrm hdr inn) vw):=by
 rw[look_eq];exact sv_sl (rows_reads_sv hI hr hg ho hU hl)
theorem row_reads (hI:Inv E S α a w) {l g rg i:Nat} {vw:Option (Nat×Nat)} {u:Value} (hr:R0 E S.heap α w (.row l g rg i vw) u) (hg:(S.heap l).1=g) {mine:Bool} {k:Kd} {hdr:List (Nat×Nat)} {inn:List (List k.Ty)} (ho:(S.heap l).2= .rows mine k rg hdr inn)
  {U:Nat->Nat->Prop} (hU:∀b o,U b o->MM E.M0 S.heap α b o) (hl:∀b o,U b o->¬fp (S.heap l).2 (α l) b o):RdC w U (.sl k) [u] (look (inn.getD i []) vw):=by
 have hr':=hr.1.2 hg;obtain⟨A,cap,real,ms,hα,R⟩:=rows_co hI ho;rw[ho,hα]at hr' hl;obtain⟨m,xs,h1,h2,h3,h4⟩:=hr'.2 rfl;have he:inn.getD i []=xs:=by simp [h2]
 rw[he,look_eq];exact sv_sl (mem_reads (R.mem i xs m h2 h1) hU (fun b o hu hs=>hl b o hu (.inr ⟨m,List.mem_of_getElem? h1,hs⟩)) h3 h4)
def Packed (E:En) (S:St) (α:Nat->CO) (w:World) (bor:Bool) (k:Kd) (us:List Value) (p:Pk k.Ty):Prop:=
 (∃us1 us2,us=us1++us2/\us1.length=k.sz/\Al (R0 E S.heap α w) p.rest us2/\
  ∀U:Nat->Nat->Prop,(∀b o,U b o->MM (if bor=true then E.W0 else E.M0) S.heap α b o)->(∀l,l∈p.fr\/l∈p.bo->∀b o,U b o->¬fp (S.heap l).2 (α l) b o)->RdC w U k us1 p.x)/\
 (∀l∈p.fr,∃k full,(S.heap l).2= .arr true false k full)/\(bor=false->p.bo=[])
theorem pack_sound (hI:Inv E S α a w):∀(k:Kd) (bor:Bool) (cs:List A0) (us:List Value) (p:Pk k.Ty),(pack bor k cs).ev S=some p->Al (R0 E S.heap α w) cs us->Packed E S α w bor k us p:=by
 intro k
 induction k with
 |int ik=>
  intro bor cs us p hp hv;cases hv with
  |nil=>simp [pack,Cm.ev]at hp
  | @cons x u cs us hx hr=>
   cases x with
   |v y=>
    cases y<;>simp [pack,Cm.ev]at hp
    rename_i ik' n;split at hp
    ·rename_i hk;simp [Cm.ev]at hp;subst hp hk;exact⟨⟨[u],us,rfl,rfl,hr,fun U _ _=>by rw[show u=_ from hx];rfl⟩,by simp,fun _=>rfl⟩
    ·simp [Cm.ev]at hp
   |_=>simp [pack,Cm.ev]at hp
 |bool=>
  intro bor cs us p hp hv;cases hv with
  |nil=>simp [pack,Cm.ev]at hp
  | @cons x u cs us hx hr=>
   cases x with
   |v y=>
    cases y<;>simp [pack,Cm.ev]at hp
    subst hp;exact⟨⟨[u],us,rfl,rfl,hr,fun U _ _=>by rw[show u=_ from hx];rfl⟩,by simp,fun _=>rfl⟩
   |_=>simp [pack,Cm.ev]at hp
 |str=>
  intro bor cs us p hp hv;cases hv with
  |nil=>simp [pack,Cm.ev]at hp
  | @cons x u cs us hx hr=>
   cases x with
   |v y=>
    cases y<;>simp [pack,Cm.ev]at hp
    subst hp;exact⟨⟨[u],us,rfl,rfl,hr,fun U _ _=>by rw[show u=_ from hx];rfl⟩,by simp,fun _=>rfl⟩
   |_=>simp [pack,Cm.ev]at hp
 |st f ih=>
  intro bor cs us p hp hv;exact ih bor cs us p (by simpa [pack]using hp) hv
 |pair ka kb iha ihb=>
  intro bor cs us p hp hv;simp only[pack,Cm.ev_bind,Option.bind_eq_some_iff]at hp;obtain⟨pa,hpa,pb,hpb,hp⟩:=hp;simp only[Cm.ev,Option.some.injEq]at hp;subst hp;obtain⟨⟨ua,ur,rfl,hla,hra,hxa⟩,hfa,hba⟩:=iha bor cs us pa hpa hv;obtain⟨⟨ub,us2,rfl,hlb,hrb,hxb⟩,hfb,hbb⟩:=ihb bor pa.rest ur pb hpb hra;refine⟨⟨ua++ub,us2,by simp,by simp [hla,hlb,Kd.sz],hrb,fun U h1 h2=>⟨ua,ub,rfl,hxa U h1 (fun l hl=>h2 l ?_),hxb U h1 (fun l hl=>h2 l ?_)⟩⟩,fun l hl=> ?_,fun hb=>by simp [hba hb,hbb hb]⟩
  ·rcases hl with hl|hl<;>simp [hl]
  ·rcases hl with hl|hl<;>simp [hl]
  ·rcases List.mem_append.1 hl with hl|hl
   ·exact hfa l hl
   ·exact hfb l hl
 |sl k ih=>
  intro bor cs us p hp hv;cases hv with
  |nil=>simp [pack,Cm.ev]at hp
  | @cons x u cs us hx hr=>
   cases x with
   |v y=>
    cases y with
    |slice A n c=>
     cases A with
     |none=>
      cases n with
      |zero=>
       cases c with
       |zero=>
        simp [pack,Cm.ev]at hp;subst hp;refine⟨⟨[u],us,rfl,rfl,hr,fun U _ _=> ?_⟩,by simp,fun _=>rfl⟩;rw[show u=_ from hx];exact⟨none,0,rfl,Nat.le_refl _,fun h=>absurd rfl h⟩
       |succ c=>simp [pack,Cm.ev]at hp
      |succ n=>simp [pack,Cm.ev]at hp
     |some A=>simp [pack,Cm.ev]at hp
    |_=>simp [pack,Cm.ev]at hp
   |sl fl k' xs=>
    simp only[pack]at hp;split at hp
    ·rename_i f hk;split at hp
     ·rename_i hfl;simp only[Cm.ev,Option.some.injEq]at hp;subst hp;refine⟨⟨[u],us,rfl,rfl,hr,fun U h1 _=> ?_⟩,by simp,fun _=>rfl⟩;refine fgL_rd hk (RdC.mono (k:= .sl k') (Keeps.less ?_) hx);intro b o hu;have:=h1 b o hu;cases fl with
      |false=>cases bor with
       |false=>exact this
       |true=>exact MM.le E.hW this
      |true=>cases bor with
       |false=>simp at hfl
       |true=>exact this
     ·simp [Cm.ev]at hp
    ·simp [Cm.ev]at hp
   |sv fl k' xs n=>
    simp only[pack]at hp;split at hp
    ·rename_i f hk;split at hp
     ·rename_i hfl;simp only[Cm.ev,Option.some.injEq]at hp;subst hp;refine⟨⟨[u],us,rfl,rfl,hr,fun U h1 _=> ?_⟩,by simp,fun _=>rfl⟩;refine fgL_rd hk (sv_sl (RdC.mono (k:= .sv k') (x:=(xs,n)) (Keeps.less ?_) hx));intro b o hu;have:=h1 b o hu;cases fl with
      |false=>cases bor with
       |false=>exact this
       |true=>exact MM.le E.hW this
      |true=>cases bor with
       |false=>simp at hfl
       |true=>exact this
     ·simp [Cm.ev]at hp
    ·simp [Cm.ev]at hp
   |ref l g vw=>
    simp only[pack,Cm.ev]at hp;split at hp
    ·rename_i hg;split at hp
     ·rename_i mine fz k' full ho;split at hp
      ·rename_i f hk;have hU:∀U:Nat->Nat->Prop,(∀b o,U b o->MM (if bor=true then E.W0 else E.M0) S.heap α b o)->∀b o,U b o->MM E.M0 S.heap α b o:=by
        intro U h1 b o hu;have:=h1 b o hu;cases bor with
        |false=>exact this
        |true=>exact MM.le E.hW this
       split at hp
       ·rename_i hz;simp only[Cm.ev,Option.some.injEq]at hp;subst hp;exact⟨⟨[u],us,rfl,rfl,hr,fun U h1 _=>fgL_rd hk (ref_reads hI hx hg ho (hU U h1) (by simp [hz]))⟩,by simp,fun _=>rfl⟩
       ·rename_i hz;split at hp
        ·rename_i hb;simp only[Cm.ev,Option.some.injEq]at hp;subst hp;exact⟨⟨[u],us,rfl,rfl,hr,fun U h1 h2=>fgL_rd hk (ref_reads hI hx hg ho (hU U h1) (fun _=>h2 l (by simp)))⟩,by simp,fun h=>by simp [h]at hb⟩
        ·split at hp
         ·rename_i hm;simp only[Cm.ev,Option.some.injEq]at hp;subst hp;refine⟨⟨[u],us,rfl,rfl,hr,fun U h1 h2=>fgL_rd hk (ref_reads hI hx hg ho (hU U h1) (fun _=>h2 l (by simp)))⟩,?_,fun _=>rfl⟩;intro l' hl';simp at hl';subst hl';exact⟨k',full,by rw[ho];simp [hm,hz]⟩
         ·simp [Cm.ev]at hp
      ·simp [Cm.ev]at hp
     ·rename_i mine k' rg hdr inn ho;split at hp
      ·rename_i f hk;split at hp
       ·rename_i hb;simp only[Cm.ev,Option.some.injEq]at hp;subst hp;refine⟨⟨[u],us,rfl,rfl,hr,fun U h1 h2=>fgL_rd hk (rows_reads hI hx hg ho (fun b o hu=> ?_) (h2 l (by simp)))⟩,by simp,fun h=>by simp [h]at hb⟩;have:=h1 b o hu;rw[if_pos hb]at this;exact MM.le E.hW this
       ·simp [Cm.ev]at hp
      ·simp [Cm.ev]at hp
     ·rename_i vs ho;split at hp
      ·rename_i c0;split at hp
       ·rename_i hb;obtain⟨hb,_⟩:=hb;subst hb;simp only[Cm.ev_bind,Option.bind_eq_some_iff]at hp;obtain⟨q,hq,hp⟩:=hp;split at hp
        ·rename_i hrest;simp only[Cm.ev,Option.some.injEq]at hp;subst hp;have hor:=hI.obj l;rw[ho]at hor;have hpv:=hx.1.2 hg;rw[ho]at hpv;cases hα:α l with
         |vars b=>
          rw[hα]at hor hpv;obtain⟨us',h1,h2⟩:=hor;obtain⟨c,hpv',hcl,_⟩:=hpv;obtain⟨⟨u1,u2,e1,e2,e3,e4⟩,f1,f2⟩:=ih true [c0] us' q hq h1;rw[hrest]at e3;have e5:u2=[]:=by cases e3;rfl
          rw[e5,List.append_nil]at e1;refine⟨⟨[u],us,rfl,rfl,hr,fun U hU1 hU2=> ?_⟩,?_,fun h=>by simp at h⟩
          ·refine⟨some ⟨b,0,none⟩,c,by rw[hpv'];rfl,hcl,fun _=>⟨b,0,rfl,fun i x hi=> ?_⟩⟩;have hi0:i=0:=by
            rcases Nat.eq_zero_or_pos i with e|e
            ·exact e
            ·rw[List.getElem?_eq_none (by simp;omega)]at hi;cases hi
           subst hi0;cases hi;refine⟨u1,e4 U hU1 (fun l' hl'=>hU2 l' ?_),fun j v hj=> ?_⟩
           ·rcases hl' with hl'|hl'<;>simp [hl']
           ·have hi':us'[j]? =some v:=by rw[e1];exact hj
            rw[Nat.zero_mul,Nat.add_zero,Nat.zero_add];refine⟨(h2 _ _ hi').1,fun hu=>hU2 l (by simp) _ _ hu ?_⟩;rw[ho,hα];refine⟨rfl,?_⟩;rw[h1.length];exact(List.getElem?_eq_some_iff.1 hi').1
          ·exact f1
         |no=>rw[hα]at hor;exact hor.elim
         |rows A c r ms=>rw[hα]at hor;exact hor.elim
         |arr A c r=>rw[hα]at hor;exact hor.elim
        ·simp [Cm.ev]at hp
       ·simp [Cm.ev]at hp
      ·simp [Cm.ev]at hp
     ·simp [Cm.ev]at hp
    ·simp [Cm.ev]at hp
   |row l g rg i vw=>
    simp only[pack,Cm.ev]at hp;split at hp
    ·rename_i hg;split at hp
     ·rename_i mine k' rg' hdr inn ho;split at hp
      ·rename_i f hk;split at hp
       ·rename_i hb;obtain⟨rfl,hb⟩:=hb;simp only[Cm.ev,Option.some.injEq]at hp;subst hp;refine⟨⟨[u],us,rfl,rfl,hr,fun U h1 h2=>fgL_rd hk (row_reads hI hx hg ho (fun b o hu=> ?_) (h2 l (by simp)))⟩,by simp,fun h=>by simp [h]at hb⟩;have:=h1 b o hu;rw[if_pos hb]at this;exact MM.le E.hW this
       ·simp [Cm.ev]at hp
      ·simp [Cm.ev]at hp
     ·simp [Cm.ev]at hp
    ·simp [Cm.ev]at hp
   |_=>simp [pack,Cm.ev]at hp
 |sv k ih=>
  intro bor cs us p hp hv;cases hv with
  |nil=>simp [pack,Cm.ev]at hp
  | @cons x u cs us hx hr=>
   cases x with
   |v y=>
    cases y with
    |slice A n c=>
     cases A with
     |none=>
      cases n with
      |zero=>
       cases c with
       |zero=>
        simp [pack,Cm.ev]at hp;subst hp;refine⟨⟨[u],us,rfl,rfl,hr,fun U _ _=> ?_⟩,by simp,fun _=>rfl⟩;rw[show u=_ from hx];exact⟨none,0,rfl,⟨Nat.le_refl _,Nat.le_refl _⟩,fun h=>absurd rfl h⟩
       |succ c=>simp [pack,Cm.ev]at hp
      |succ n=>simp [pack,Cm.ev]at hp
     |some A=>simp [pack,Cm.ev]at hp
    |_=>simp [pack,Cm.ev]at hp
   |sv fl k' xs n=>
    simp only[pack]at hp;split at hp
    ·rename_i hk;subst hk;split at hp
     ·rename_i hfl;simp only[Cm.ev,Option.some.injEq]at hp;subst hp;refine⟨⟨[u],us,rfl,rfl,hr,fun U h1 _=> ?_⟩,by simp,fun _=>rfl⟩;refine RdC.mono (k:= .sv k') (x:=(xs,n)) (Keeps.less ?_) hx;intro b o hu;have:=h1 b o hu;cases fl with
      |false=>cases bor with
       |false=>exact this
       |true=>exact MM.le E.hW this
      |true=>cases bor with
       |false=>simp at hfl
       |true=>exact this
     ·simp [Cm.ev]at hp
    ·simp [Cm.ev]at hp
   |ref l g vw=>
    simp only[pack,Cm.ev]at hp;split at hp
    ·rename_i hg;split at hp
     ·rename_i mine fz k' full ho;split at hp
      ·rename_i hk;subst hk;have hU:∀U:Nat->Nat->Prop,(∀b o,U b o->MM (if bor=true then E.W0 else E.M0) S.heap α b o)->∀b o,U b o->MM E.M0 S.heap α b o:=by
        intro U h1 b o hu;have:=h1 b o hu;cases bor with
        |false=>exact this
        |true=>exact MM.le E.hW this
       split at hp
       ·rename_i hz;simp only[Cm.ev,Option.some.injEq]at hp;subst hp;exact⟨⟨[u],us,rfl,rfl,hr,fun U h1 _=>ref_reads_sv hI hx hg ho (hU U h1) (by simp [hz])⟩,by simp,fun _=>rfl⟩
       ·rename_i hz;split at hp
        ·rename_i hb;simp only[Cm.ev,Option.some.injEq]at hp;subst hp;exact⟨⟨[u],us,rfl,rfl,hr,fun U h1 h2=>ref_reads_sv hI hx hg ho (hU U h1) (fun _=>h2 l (by simp))⟩,by simp,fun h=>by simp [h]at hb⟩
        ·split at hp
         ·rename_i hm;simp only[Cm.ev,Option.some.injEq]at hp;subst hp;refine⟨⟨[u],us,rfl,rfl,hr,fun U h1 h2=>ref_reads_sv hI hx hg ho (hU U h1) (fun _=>h2 l (by simp))⟩,?_,fun _=>rfl⟩;intro l' hl';simp at hl';subst hl';exact⟨k',full,by rw[ho];simp [hm,hz]⟩
         ·simp [Cm.ev]at hp
      ·simp [Cm.ev]at hp
     ·rename_i mine k' rg hdr inn ho;split at hp
      ·rename_i hk;subst hk;split at hp
       ·rename_i hb;simp only[Cm.ev,Option.some.injEq]at hp;subst hp;refine⟨⟨[u],us,rfl,rfl,hr,fun U h1 h2=>rows_reads_sv hI hx hg ho (fun b o hu=> ?_) (h2 l (by simp))⟩,by simp,fun h=>by simp [h]at hb⟩;have:=h1 b o hu;rw[if_pos hb]at this;exact MM.le E.hW this
       ·simp [Cm.ev]at hp
      ·simp [Cm.ev]at hp
     ·simp [Cm.ev]at hp
    ·simp [Cm.ev]at hp
   |_=>simp [pack,Cm.ev]at hp
 |er=>
  intro bor cs us p hp hv;cases hv with
  |nil=>simp [pack,Cm.ev]at hp
  | @cons x u cs us hx hr=>
   cases x with
   |er b=>
    simp [pack,Cm.ev]at hp;subst hp;exact⟨⟨[u],us,rfl,rfl,hr,fun U _ _=>hx⟩,by simp,fun _=>rfl⟩
   |v y=>
    cases y<;>simp [pack,Cm.ev]at hp
    subst hp;refine⟨⟨[u],us,rfl,rfl,hr,fun U _ _=> ?_⟩,by simp,fun _=>rfl⟩;rw[show u=_ from hx];exact⟨_,rfl,by simp [Value.oneCell'],by simp⟩
   |_=>simp [pack,Cm.ev]at hp
 |pt k ih=>
  intro bor cs us p hp hv;cases hv with
  |nil=>simp [pack,Cm.ev]at hp
  | @cons x u cs us hx hr=>
   cases x with
   |pt fl k' x=>
    simp only[pack]at hp;split at hp
    ·rename_i hk;subst hk;split at hp
     ·rename_i hfl;simp only[Cm.ev,Option.some.injEq]at hp;subst hp;refine⟨⟨[u],us,rfl,rfl,hr,fun U h1 _=> ?_⟩,by simp,fun _=>rfl⟩;refine RdC.mono (k:= .pt k') (Keeps.less ?_) hx;intro b o hu;have:=h1 b o hu;cases fl with
      |false=>cases bor with
       |false=>exact this
       |true=>exact MM.le E.hW this
      |true=>cases bor with
       |false=>simp at hfl
       |true=>exact this
     ·simp [Cm.ev]at hp
    ·simp [Cm.ev]at hp
   |pm k' x=>
    simp only[pack]at hp;split at hp
    ·rename_i hk;subst hk;split at hp
     ·rename_i hb;subst hb;simp only[Cm.ev,Option.some.injEq]at hp;subst hp;refine⟨⟨[u],us,rfl,rfl,hr,fun U h1 _=> ?_⟩,by simp,fun _=>rfl⟩;obtain⟨b,o,es,e1,e2,e3⟩:=hx;exact⟨b,o,es,by rw[e1],RdC.mono (Keeps.less fun b o hu=>MM.le E.hW (h1 b o hu)) e2,e3.mono (Keeps.less fun b o hu=>h1 b o hu)⟩
     ·simp [Cm.ev]at hp
    ·simp [Cm.ev]at hp
   |pv l g j=>
    simp only[pack]at hp;split at hp
    ·rename_i hb;subst hb;simp only[Cm.ev]at hp;split at hp
     ·rename_i hg;split at hp
      ·rename_i vs ho;simp only[Cm.ev_bind,Option.bind_eq_some_iff]at hp;obtain⟨q,hq,hp⟩:=hp;simp only[Cm.ev,Option.some.injEq]at hp;subst hp;have hor:=hI.obj l;rw[ho]at hor;have hpv:=hx.1.2 hg;rw[ho]at hpv;cases hα:α l with
       |vars b=>
        rw[hα]at hor hpv;obtain⟨us',h1,h2⟩:=hor;have hpv':u= .pointer (some ⟨b,j,none⟩):=hpv;obtain⟨⟨u1,u2,e1,e2,e3,e4⟩,f1,f2⟩:=ih true (vs.drop j) (us'.drop j) q hq (h1.drop j);refine⟨⟨[u],us,rfl,rfl,hr,fun U hU1 hU2=> ?_⟩,?_,fun h=>by simp at h⟩
        ·refine⟨b,j,u1,by rw[hpv'],e4 U hU1 (fun l' hl'=>hU2 l' ?_),fun i v hi=> ?_⟩
         ·rcases hl' with hl'|hl'<;>simp [hl']
         ·have hi':us'[j+i]? =some v:=by
           have:(us'.drop j)[i]? =some v:=by
            rw[e1,List.getElem?_append_left (List.getElem?_eq_some_iff.1 hi).1];exact hi
           simpa using this
          refine⟨(h2 _ _ hi').1,fun hu=>hU2 l (by simp) _ _ hu ?_⟩;rw[ho,hα];refine⟨rfl,?_⟩;rw[h1.length];exact(List.getElem?_eq_some_iff.1 hi').1
        ·exact f1
       |no=>rw[hα]at hor;exact hor.elim
       |rows A c r ms=>rw[hα]at hor;exact hor.elim
       |arr A c r=>rw[hα]at hor;exact hor.elim
      ·simp [Cm.ev]at hp
     ·simp [Cm.ev]at hp
    ·simp [Cm.ev]at hp
   |_=>simp [pack,Cm.ev]at hp
end
end Go.Cm
