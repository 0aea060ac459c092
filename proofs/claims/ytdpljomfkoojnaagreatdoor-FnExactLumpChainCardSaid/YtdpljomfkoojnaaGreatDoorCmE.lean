import Derived.Test.YtdpljomfkoojnaaGreatDoorCmD
namespace Go.Cm
inductive Al {α β:Type} (R:α->β->Prop):List α->List β->Prop where
 |nil:Al R [] []
 |cons {a:α} {b:β} {as:List α} {bs:List β} :R a b->Al R as bs->Al R (a::as) (b::bs)
namespace Al
variable {α β:Type} {R R':α->β->Prop}
theorem length {xs:List α} {ys:List β} (h:Al R xs ys):xs.length=ys.length:=by
 induction h with
 |nil=>rfl
 |cons _ _ ih=>simp [ih]
theorem mono {xs:List α} {ys:List β} (hr:∀a b,R a b->R' a b) (h:Al R xs ys):Al R' xs ys:=by
 induction h with
 |nil=>exact .nil
 |cons h _ ih=>exact .cons (hr _ _ h) ih
theorem append {xs xs':List α} {ys ys':List β} (h:Al R xs ys) (h':Al R xs' ys'):Al R (xs++xs') (ys++ys'):=by
 induction h with
 |nil=>exact h'
 |cons h _ ih=>exact .cons h ih
theorem drop {xs:List α} {ys:List β} (h:Al R xs ys) (n:Nat):Al R (xs.drop n) (ys.drop n):=by
 induction h generalizing n with
 |nil=>simp;exact .nil
 |cons h t ih=>
  cases n with
  |zero=>exact .cons h t
  |succ n=>simpa using ih n
theorem take {xs:List α} {ys:List β} (h:Al R xs ys) (n:Nat):Al R (xs.take n) (ys.take n):=by
 induction h generalizing n with
 |nil=>simp;exact .nil
 |cons h t ih=>
  cases n with
  |zero=>simp;exact .nil
  |succ n=>simpa using .cons h (ih n)
theorem get {xs:List α} {ys:List β} (h:Al R xs ys) {i:Nat} {x:α} (hx:xs[i]? =some x):∃y,ys[i]? =some y/\R x y:=by
 induction h generalizing i with
 |nil=>simp at hx
 |cons h t ih=>
  cases i with
  |zero=>simp at hx;subst hx;exact⟨_,by simp,h⟩
  |succ i=>simpa using ih (by simpa using hx)
end Al
inductive CO where
 |no
 |arr (A:Option (Nat×Nat)) (cap real:Nat)
 |rows (A:Option (Nat×Nat)) (cap real:Nat) (ms:List (Option (Nat×Nat)×Nat×Nat))
 |vars (b:Nat)
def seg (k:Kd) (m:Option (Nat×Nat)×Nat×Nat) (b o:Nat):Prop:=∃oo,m.1=some (b,oo)/\oo<=o/\o<oo+m.2.1*k.sz
def fp:AO->CO->Nat->Nat->Prop
 | .arr _ false k _, .arr (some (b,o)) cap _=>fun b' o'=>b'=b/\o<=o'/\o'<o+cap*k.sz
 | .vars cs, .vars b=>fun b' o'=>b'=b/\o'<cs.length
 | .rows _ k _ _ _, .rows A cap _ ms=>fun b o=>(∃oo,A=some (b,oo)/\oo<=o/\o<oo+cap)\/∃m∈ms,seg k m b o
 |_,_=>fun _ _=>False
def MM (M0:Nat->Nat->Prop) (H:Nat->Nat×AO) (α:Nat->CO):Nat->Nat->Prop:=fun b o=>M0 b o\/∃l,fp (H l).2 (α l) b o
def SlAt (A:Option (Nat×Nat)) (d len c:Nat) (u:Value):Prop:=
 ∃A',u= .slice A' len c/\len<=c/\(0<c->∃b o,A=some (b,o)/\A'=some ⟨b,o+d,none⟩)
def SlR (k:Kd) (m:Option (Nat×Nat)×Nat×Nat) (n:Nat) (u:Value):Prop:=SlAt m.1 0 n m.2.2 u/\(strict k=true->m.2.1=0->u= .slice none 0 0)
def RefAt (vw:Option (Nat×Nat)) (u:Value):AO->CO->Prop
 | .arr _ _ k full, .arr A _ real=>voff vw+vlen full vw<=full.length/\SlAt A (voff vw*k.sz) (vlen full vw) (real - voff vw) u
 | .rows _ _ _ hdr _, .rows A _ real _=>voff vw+vlen hdr vw<=hdr.length/\SlAt A (voff vw) (vlen hdr vw) (real - voff vw) u
 | .vars cs, .vars b=>∃c,u= .slice (some ⟨b,0,none⟩) cs.length c/\cs.length<=c/\0<c
 |_,_=>True
def PaAt (i j:Nat) (u:Value):AO->CO->Prop
 | .arr _ _ k full, .arr A _ _=>i<full.length/\∃b o,A=some (b,o)/\u= .pointer (some ⟨b,o+i*k.sz+j,none⟩)
 | .rows _ _ _ hdr _, .rows A _ _ _=>i<hdr.length/\∃b o,A=some (b,o)/\u= .pointer (some ⟨b,o+i+j,none⟩)
 |_,_=>True
def RowAt (rg i:Nat) (vw:Option (Nat×Nat)) (u:Value):AO->CO->Prop
 | .rows _ k rg' _ inn, .rows _ _ _ ms=>rg<=rg'/\(rg'=rg->∃m xs,ms[i]? =some m/\inn[i]? =some xs/\voff vw+vlen xs vw<=xs.length/\SlAt m.1 (voff vw*k.sz) (vlen xs vw) (m.2.2 - voff vw) u)
 |_,_=>True
def PrAt (rg i e j:Nat) (u:Value):AO->CO->Prop
 | .rows _ k rg' _ inn, .rows _ _ _ ms=>rg<=rg'/\(rg'=rg->∃m xs b o,ms[i]? =some m/\inn[i]? =some xs/\e<xs.length/\m.1=some (b,o)/\u= .pointer (some ⟨b,o+e*k.sz+j,none⟩))
 |_,_=>True
def PvAt (j:Nat) (u:Value):AO->CO->Prop
 | .vars _, .vars b=>u= .pointer (some ⟨b,j,none⟩)
 |_,_=>True
def VR0 (w:World) (M Mb:Nat->Nat->Prop) (H:Nat->Nat×AO) (α:Nat->CO):A0->Value->Prop
 | .bot,_=>True
 | .v x,u=>u=x
 | .sl fl k xs,u=>RdC w (if fl=true then Mb else M) (.sl k) [u] xs
 | .pt fl k x,u=>RdC w (if fl=true then Mb else M) (.pt k) [u] x
 | .sv fl k xs n,u=>RdC w (if fl=true then Mb else M) (.sv k) [u] (xs,n)
 | .er b,u=>RdC w M .er [u] b
 | .pm k x,u=>∃b o es,u= .pointer (some ⟨b,o,none⟩)/\RdC w M k es x/\Cells w Mb b o es
 | .ref l g vw,u=>(g<=(H l).1/\((H l).1=g->RefAt vw u (H l).2 (α l)))/\u.oneCell'=true
 | .pa l g i j,u=>(g<=(H l).1/\((H l).1=g->PaAt i j u (H l).2 (α l)))/\u.oneCell'=true
 | .pv l g j,u=>(g<=(H l).1/\((H l).1=g->PvAt j u (H l).2 (α l)))/\u.oneCell'=true
 | .row l g rg i vw,u=>(g<=(H l).1/\((H l).1=g->RowAt rg i vw u (H l).2 (α l)))/\u.oneCell'=true
 | .pr l g rg i e j,u=>(g<=(H l).1/\((H l).1=g->PrAt rg i e j u (H l).2 (α l)))/\u.oneCell'=true
def enc (ag:Bool) (us:List Value):Value:=if ag=true then .agg us.toArray else us.headD undef
def VR1 (R:A0->Value->Prop) (p:Bool×List A0) (u:Value):Prop:=∃us,u=enc p.1 us/\Al R p.2 us/\(p.1=false->p.2.length=1)
def VR (R:A0->Value->Prop):AV->Value->Prop
 | .one ag cs,u=>VR1 R (ag,cs) u
 | .tup xs,u=>∃vs,u= .tuple vs.toArray/\Al (VR1 R) xs vs
theorem VR1.mono {R R':A0->Value->Prop} (h:∀a u,R a u->R' a u) {p:Bool×List A0} {u:Value} (hv:VR1 R p u):VR1 R' p u:=
 let ⟨us,h1,h2,h3⟩:=hv;⟨us,h1,h2.mono h,h3⟩
theorem VR.mono {R R':A0->Value->Prop} (h:∀a u,R a u->R' a u):∀ {v:AV} {u:Value},VR R v u->VR R' v u
 | .one _ _,_,hv=>VR1.mono h hv
 | .tup _,_,⟨vs,h1,h2⟩=>⟨vs,h1,h2.mono fun _ _=>VR1.mono h⟩
def MemOk (w:World) (M:Nat->Nat->Prop) (k:Kd) (xs:List k.Ty) (m:Option (Nat×Nat)×Nat×Nat):Prop:=m.2.1=xs.length/\xs.length<=m.2.2/\(m.1=none↔m.2.2=0)/\∀b o,m.1=some (b,o)->
 (∀(i:Nat) (x:k.Ty),xs[i]? =some x->∃es,RdC w M k es x/\Cells0 w b (o+i*k.sz) es)/\∀j,j<xs.length*k.sz->(∃v,w.cell? ⟨b,o+j,none⟩=some v)/\w.frozen? ⟨b,o+j,none⟩=false
structure RowsOk (w:World) (M:Nat->Nat->Prop) (mine:Bool) (k:Kd) (hdr:List (Nat×Nat)) (inn:List (List k.Ty)) (A:Option (Nat×Nat)) (cap real:Nat) (ms:List (Option (Nat×Nat)×Nat×Nat)):Prop where
 len:hdr.length<=cap
 full:mine=false->hdr.length=cap
 cr:cap<=real
 mcap:mine=true->cap=real
 non:A=none↔real=0
 ml:ms.length=inn.length
 hd:∀(i:Nat) (p:Nat×Nat),hdr[i]? =some p->∃m,ms[p.1]? =some m/\p.2<=m.2.1
 cel:∀b o,A=some (b,o)->(∀(i:Nat) (p:Nat×Nat) (m:Option (Nat×Nat)×Nat×Nat),hdr[i]? =some p->ms[p.1]? =some m->∃u,w.cell? ⟨b,o+i,none⟩=some u/\SlR k m p.2 u)/\
  ∀j,j<cap->(∃v,w.cell? ⟨b,o+j,none⟩=some v)/\w.frozen? ⟨b,o+j,none⟩=false
 mem:∀(j:Nat) (xs:List k.Ty) (m:Option (Nat×Nat)×Nat×Nat),inn[j]? =some xs->ms[j]? =some m->MemOk w M k xs m
 dj:∀(j j':Nat) (m m':Option (Nat×Nat)×Nat×Nat) (b o:Nat),j≠j'->ms[j]? =some m->ms[j']? =some m'->seg k m b o->seg k m' b o->False
 dO:∀m∈ms,∀b o oo,seg k m b o->A=some (b,oo)->oo<=o->o<oo+cap->False
def OR (w:World) (M Mb:Nat->Nat->Prop) (H:Nat->Nat×AO) (α:Nat->CO):AO->CO->Prop
 | .no,_=>True
 | .arr mine fz k full, .arr A cap real=>(full.length<=cap/\(mine=false->full.length=cap))/\cap<=real/\(mine=true->cap=real)/\(A=none->real=0)/\
   ∀b o,A=some (b,o)->
    (∀(i:Nat) (x:k.Ty),full[i]? =some x->∃es,RdC w M k es x/\Cells0 w b (o+i*k.sz) es/\(fz=true->∀j,j<k.sz->¬M b (o+i*k.sz+j)))/\
    (fz=false->∀j,j<cap*k.sz->(∃v,w.cell? ⟨b,o+j,none⟩=some v)/\w.frozen? ⟨b,o+j,none⟩=false)
 | .vars cs, .vars b=>∃us,Al (VR0 w M Mb H α) cs us/\∀j u,us[j]? =some u->w.cell? ⟨b,j,none⟩=some u/\w.frozen? ⟨b,j,none⟩=false/\u.oneCell'=true
 | .rows mine k _ hdr inn, .rows A cap real ms=>RowsOk w M mine k hdr inn A cap real ms
 |_,_=>False
def BlockLike (U:Nat->Prop) (x y:Option Obj):Prop:=y=x\/∃cs cs' e z,x=some (.cells cs e z)/\y=some (.cells cs' e z)/\cs'.size=cs.size/\∀i,¬U i->cs'[i]? =cs[i]?
structure Fr (W:Nat->Nat->Prop) (w w':World):Prop where
 os:w'.os=w.os
 tape:w'.tape=w.tape
 output:w'.output=w.output
 size:w.heap.size<=w'.heap.size
 block:∀b,b<w.heap.size->BlockLike (W b) w.heap[b]? w'.heap[b]?
theorem BlockLike.trans {U:Nat->Prop} {x y z:Option Obj} (h:BlockLike U x y) (k:BlockLike U y z):BlockLike U x z:=by
 rcases h with rfl|⟨cs,cs',e,q,rfl,rfl,h3,h4⟩
 ·exact k
 ·rcases k with rfl|⟨ds,ds',e',q',k1,rfl,k3,k4⟩
  ·exact .inr ⟨cs,cs',e,q,rfl,rfl,h3,h4⟩
  ·injection k1 with k1
   injection k1 with k1 k2 k5
   subst k1 k2 k5;exact .inr ⟨cs,ds',e,q,rfl,rfl,k3.trans h3,fun i hi=>(k4 i hi).trans (h4 i hi)⟩
theorem Fr.refl (W:Nat->Nat->Prop) (w:World):Fr W w w:=⟨rfl,rfl,rfl,Nat.le_refl _,fun _ _=> .inl rfl⟩
theorem Fr.trans {W:Nat->Nat->Prop} {w w1 w2:World} (h:Fr W w w1) (k:Fr W w1 w2):Fr W w w2:=
 ⟨k.os.trans h.os,k.tape.trans h.tape,k.output.trans h.output,Nat.le_trans h.size k.size,fun b hb=>(h.block b hb).trans (k.block b (Nat.lt_of_lt_of_le hb h.size))⟩
theorem Fr.weaken {W W':Nat->Nat->Prop} {w0 w w':World} (h:Fr W w w') (hs:w0.heap.size<=w.heap.size) (hw:∀b o,b<w0.heap.size->W b o->W' b o) (h0:Fr W' w0 w):Fr W' w0 w':=by
 refine⟨h.os.trans h0.os,h.tape.trans h0.tape,h.output.trans h0.output,Nat.le_trans hs h.size,fun b hb=>(h0.block b hb).trans ?_⟩;rcases h.block b (Nat.lt_of_lt_of_le hb hs)with h|⟨cs,cs',e,z,h1,h2,h3,h4⟩
 ·exact .inl h
 ·exact .inr ⟨cs,cs',e,z,h1,h2,h3,fun i hi=>h4 i (fun hq=>hi (hw b i hb hq))⟩
theorem Fr.cell {W:Nat->Nat->Prop} {w w':World} (h:Fr W w w') {b o:Nat} {v:Value} (hc:w.cell? ⟨b,o,none⟩=some v) (hn:¬W b o):w'.cell? ⟨b,o,none⟩=some v:=by
 have hb:=World.block_lt_of_cell? _ _ hc;rcases h.block b hb with h|⟨cs,cs',e,z,h1,h2,h3,h4⟩
 ·simp only[World.cell?]at hc ⊢;rw[h];exact hc
 ·simp only[World.cell?,h1]at hc;simp only[World.cell?,h2];simpa [h4 o hn]using hc
theorem Fr.some {W:Nat->Nat->Prop} {w w':World} (h:Fr W w w') {b o:Nat} {v:Value} (hc:w.cell? ⟨b,o,none⟩=some v):∃v',w'.cell? ⟨b,o,none⟩=some v':=by
 have hb:=World.block_lt_of_cell? _ _ hc;rcases h.block b hb with h|⟨cs,cs',e,z,h1,h2,h3,h4⟩
 ·refine⟨v,?_⟩;simp only[World.cell?]at hc ⊢;rw[h];exact hc
 ·simp only[World.cell?,h1]at hc;simp only[World.cell?,h2];simp at hc ⊢;have:o<cs'.size:=by
   rw[h3];exact(Array.getElem?_eq_some_iff.1 hc).1
  exact⟨cs'[o],by simp [this]⟩
theorem Fr.frozen {W:Nat->Nat->Prop} {w w':World} (h:Fr W w w') {b o:Nat} {v:Value} (hc:w.cell? ⟨b,o,none⟩= .some v):w'.frozen? ⟨b,o,none⟩=w.frozen? ⟨b,o,none⟩:=by
 have hb:=World.block_lt_of_cell? _ _ hc;rcases h.block b hb with h|⟨cs,cs',e,z,h1,h2,h3,h4⟩
 ·simp only[World.frozen?];rw[h]
 ·simp only[World.frozen?,h1,h2]
theorem Fr.below {w w':World} (h:Fr (fun _ _=>False) w w'):Go.RowKit.Below w.heap.size w w':=by
 refine⟨h.os,h.tape,h.output,h.size,fun b hb=> ?_⟩;rcases h.block b hb with h|⟨cs,cs',e,z,h1,h2,h3,h4⟩
 ·exact h
 ·rw[h1,h2];have:cs'=cs:=by
   apply Array.ext h3;intro i hi hi';have:=h4 i (fun h=>h);rw[Array.getElem?_eq_getElem hi,Array.getElem?_eq_getElem hi']at this;exact Option.some.inj this
  rw[this]
end Go.Cm
