import Derived.Test.YtdpljomfkoojnaaGreatDoorCmE
namespace Go.Cm
def Laid (gl:List (Nat×List Value)) (w:World) (M:Nat->Nat->Prop):Prop:=∀p∈gl,(∃e z,w.heap[p.1]? =some (.cells p.2.toArray e z))/\∀o,¬M p.1 o
structure En where
 P:Program
 gl:List (Nat×List Value)
 w0:World
 n:Nat
 M0:Nat->Nat->Prop
 W0:Nat->Nat->Prop
 hM:∀b o,M0 b o->b<w0.heap.size
 hW:∀b o,W0 b o->M0 b o
 γ:Nat->CO
 hγ:∀l A cap,γ l= .arr A cap 0->A=none
 lay:Laid gl w0 M0
def isMine:AO->Bool
 | .arr mine _ _ _=>mine
 | .rows mine _ _ _ _=>mine
 |_=>true
def Frn:CO->CO->Prop
 | .rows A cap real ms,c=>∃ms',c= .rows A cap real ms'/\∀m∈ms,m∈ms'
 |c,c'=>c=c'
theorem Frn.refl:∀c:CO,Frn c c
 | .rows _ _ _ ms=>⟨ms,rfl,fun _ h=>h⟩
 | .no| .arr _ _ _| .vars _=>rfl
theorem Frn.trans {a b c:CO} (h:Frn a b) (k:Frn b c):Frn a c:=by
 cases a with
 |rows A cap real ms=>
  obtain⟨ms',rfl,h2⟩:=h;obtain⟨ms'',rfl,k2⟩:=k;exact⟨ms'',rfl,fun m hm=>k2 m (h2 m hm)⟩
 |_=>rw[show _=b from h];exact k
def R0 (E:En) (H:Nat->Nat×AO) (α:Nat->CO) (w:World):A0->Value->Prop:=VR0 w (MM E.M0 H α) (MM E.W0 H α) H α
structure Inv (E:En) (S:St) (α:Nat->CO) (a:Act) (w:World):Prop where
 fr:Fr E.W0 E.w0 w
 dsj:∀l l' b o,l≠l'->fp (S.heap l).2 (α l) b o->fp (S.heap l').2 (α l') b o->False
 new:∀l b o,fp (S.heap l).2 (α l) b o->E.w0.heap.size<=b\/(E.W0 b o/\isMine (S.heap l).2=false)
 obj:∀l,OR w (MM E.M0 S.heap α) (MM E.W0 S.heap α) S.heap α (S.heap l).2 (α l)
 slt:∀s,VR (R0 E S.heap α w) (S.env s) (a.tmps.getD s undef)
 dfr:a.defers=[]
 siz:a.tmps.size=E.n
 frn:∀l,isMine (S.heap l).2=false->Frn (α l) (E.γ l)
def ShapeLe:AO->CO->AO->CO->Prop
 | .arr _ _ k full, .arr A _ real, .arr _ _ k' full', .arr A' _ real'=>k'=k/\full'.length=full.length/\A'=A/\real'=real
 | .vars cs, .vars b, .vars cs', .vars b'=>cs'.length=cs.length/\b'=b
 | .rows _ k rg hdr inn, .rows A _ real ms, .rows _ k' rg' hdr' inn', .rows A' _ real' ms'=>(k'=k/\hdr'.length=hdr.length/\A'=A/\real'=real)/\rg<=rg'/\
   (rg'=rg->∀(i:Nat) (m:Option (Nat×Nat)×Nat×Nat) (xs:List k.Ty),ms[i]? =some m->inn[i]? =some xs->ms'[i]? =some m/\∃xs',inn'[i]? =some xs'/\xs'.length=xs.length)
 |_,_, .no,_=>True
 |_,_,_,_=>False
theorem vlen_eq {β γ:Type} {xs:List β} {ys:List γ} (h:xs.length=ys.length) (vw:Option (Nat×Nat)):vlen xs vw=vlen ys vw:=by cases vw<;>simp [vlen,h]
theorem RefAt.shape {vw:Option (Nat×Nat)} {u:Value} {o o':AO} {c c':CO} (hs:ShapeLe o c o' c') (h:RefAt vw u o c):RefAt vw u o' c':=by
 cases o' with
 |arr mine' fz' k' full'=>
  cases o with
  |arr mine fz k full=>
   cases c<;>cases c'<;>simp only[ShapeLe]at hs
   obtain⟨rfl,hl,rfl,rfl⟩:=hs;simpa only[RefAt,vlen_eq hl,hl]using h
  |_=>cases c<;>cases c'<;>simp [ShapeLe]at hs
 |rows mine' k' rg' hdr' inn'=>
  cases o with
  |rows mine k rg hdr inn=>
   cases c<;>cases c'<;>simp only[ShapeLe]at hs
   obtain⟨⟨rfl,hl,rfl,rfl⟩,_⟩:=hs;simpa only[RefAt,vlen_eq hl,hl]using h
  |_=>cases c<;>cases c'<;>simp [ShapeLe]at hs
 |vars cs'=>
  cases o with
  |vars cs=>
   cases c<;>cases c'<;>simp only[ShapeLe]at hs
   obtain⟨hl,rfl⟩:=hs;simpa only[RefAt,hl]using h
  |_=>cases c<;>cases c'<;>simp [ShapeLe]at hs
 |_=>simp [RefAt]
theorem PaAt.shape {i j:Nat} {u:Value} {o o':AO} {c c':CO} (hs:ShapeLe o c o' c') (h:PaAt i j u o c):PaAt i j u o' c':=by
 cases o' with
 |arr mine' fz' k' full'=>
  cases o with
  |arr mine fz k full=>
   cases c<;>cases c'<;>simp only[ShapeLe]at hs
   obtain⟨rfl,hl,rfl,rfl⟩:=hs;simpa only[PaAt,hl]using h
  |_=>cases c<;>cases c'<;>simp [ShapeLe]at hs
 |rows mine' k' rg' hdr' inn'=>
  cases o with
  |rows mine k rg hdr inn=>
   cases c<;>cases c'<;>simp only[ShapeLe]at hs
   obtain⟨⟨rfl,hl,rfl,rfl⟩,_⟩:=hs;simpa only[PaAt,hl]using h
  |_=>cases c<;>cases c'<;>simp [ShapeLe]at hs
 |_=>simp [PaAt]
theorem PvAt.shape {j:Nat} {u:Value} {o o':AO} {c c':CO} (hs:ShapeLe o c o' c') (h:PvAt j u o c):PvAt j u o' c':=by
 cases o' with
 |vars cs'=>
  cases o with
  |vars cs=>
   cases c<;>cases c'<;>simp only[ShapeLe]at hs
   obtain⟨hl,rfl⟩:=hs;simpa only[PvAt]using h
  |_=>cases c<;>cases c'<;>simp [ShapeLe]at hs
 |_=>simp [PvAt]
theorem RowAt.shape {rg0 i:Nat} {vw:Option (Nat×Nat)} {u:Value} {o o':AO} {c c':CO} (hs:ShapeLe o c o' c') (h:RowAt rg0 i vw u o c):RowAt rg0 i vw u o' c':=by
 cases o' with
 |rows mine' k' rg' hdr' inn'=>
  cases o with
  |rows mine k rg hdr inn=>
   cases c<;>cases c'<;>simp only[ShapeLe]at hs
   obtain⟨⟨rfl,_⟩,hle,hk⟩:=hs;obtain⟨h1,h2⟩:=h;refine⟨Nat.le_trans h1 hle,fun he=> ?_⟩;obtain⟨m,xs,g1,g2,g3,g4⟩:=h2 (by omega);obtain⟨k1,xs',k2,k3⟩:=hk (by omega) i m xs g1 g2;exact⟨m,xs',k1,k2,by rw[vlen_eq k3,k3];exact g3,by rw[vlen_eq k3];exact g4⟩
  |_=>cases c<;>cases c'<;>simp [ShapeLe]at hs
 |_=>simp [RowAt]
theorem PrAt.shape {rg0 i e j:Nat} {u:Value} {o o':AO} {c c':CO} (hs:ShapeLe o c o' c') (h:PrAt rg0 i e j u o c):PrAt rg0 i e j u o' c':=by
 cases o' with
 |rows mine' k' rg' hdr' inn'=>
  cases o with
  |rows mine k rg hdr inn=>
   cases c<;>cases c'<;>simp only[ShapeLe]at hs
   obtain⟨⟨rfl,_⟩,hle,hk⟩:=hs;obtain⟨h1,h2⟩:=h;refine⟨Nat.le_trans h1 hle,fun he=> ?_⟩;obtain⟨m,xs,b,o,g1,g2,g3,g4,g5⟩:=h2 (by omega);obtain⟨k1,xs',k2,k3⟩:=hk (by omega) i m xs g1 g2;exact⟨m,xs',b,o,k1,k2,by omega,g4,g5⟩
  |_=>cases c<;>cases c'<;>simp [ShapeLe]at hs
 |_=>simp [PrAt]
def Goes (H:Nat->Nat×AO) (α:Nat->CO) (H':Nat->Nat×AO) (α':Nat->CO):Prop:=
 ∀l,(H l).1<=(H' l).1/\((H' l).1=(H l).1->((H' l).2=(H l).2/\α' l=α l)\/ShapeLe (H l).2 (α l) (H' l).2 (α' l))
theorem Goes.refl (H:Nat->Nat×AO) (α:Nat->CO):Goes H α H α:=fun _=>⟨Nat.le_refl _,fun _=> .inl ⟨rfl,rfl⟩⟩
theorem VR0.mono {w w':World} {M M' Mb Mb':Nat->Nat->Prop} {H H':Nat->Nat×AO} {α α':Nat->CO} (h1:Keeps w M w' M') (h2:Keeps w Mb w' Mb')
  (h3:Goes H α H' α'):∀(a:A0) (u:Value),VR0 w M Mb H α a u->VR0 w' M' Mb' H' α' a u:=by
 intro a u h;have key:∀(l g:Nat) (Q:AO->CO->Prop),(∀ {o o':AO} {c c':CO},ShapeLe o c o' c'->Q o c->Q o' c')->
   (g<=(H l).1/\((H l).1=g->Q (H l).2 (α l)))->(g<=(H' l).1/\((H' l).1=g->Q (H' l).2 (α' l))):=by
  intro l g Q hQ hh;obtain⟨hle,hsh⟩:=h3 l;refine⟨Nat.le_trans hh.1 hle,fun hg=> ?_⟩;have he:(H' l).1=(H l).1:=by omega
  have h0:=hh.2 (by omega);rcases hsh he with ⟨e1,e2⟩|hs
  ·rw[e1,e2];exact h0
  ·exact hQ hs h0
 cases a with
 |bot=>trivial
 |v x=>exact h
 |sl fl k xs=>
  cases fl with
  |true=>exact RdC.mono (k:= .sl k) h2 h
  |false=>exact RdC.mono (k:= .sl k) h1 h
 |pt fl k x=>
  cases fl with
  |true=>exact RdC.mono (k:= .pt k) h2 h
  |false=>exact RdC.mono (k:= .pt k) h1 h
 |sv fl k xs n=>
  cases fl with
  |true=>exact RdC.mono (k:= .sv k) (x:=(xs,n)) h2 h
  |false=>exact RdC.mono (k:= .sv k) (x:=(xs,n)) h1 h
 |er b=>exact h
 |pm k x=>
  obtain⟨b,o,es,e1,e2,e3⟩:=h;exact⟨b,o,es,e1,RdC.mono h1 e2,e3.mono h2⟩
 |ref l g vw=>exact⟨key l g _ RefAt.shape h.1,h.2⟩
 |pa l g i j=>exact⟨key l g _ PaAt.shape h.1,h.2⟩
 |pv l g j=>exact⟨key l g _ PvAt.shape h.1,h.2⟩
 |row l g rg i vw=>exact⟨key l g _ RowAt.shape h.1,h.2⟩
 |pr l g rg i e j=>exact⟨key l g _ PrAt.shape h.1,h.2⟩
theorem OR.cell {w:World} {M Mb:Nat->Nat->Prop} {H:Nat->Nat×AO} {α:Nat->CO} {o:AO} {c:CO} (h:OR w M Mb H α o c) {b i:Nat} (hf:fp o c b i):(∃v,w.cell? ⟨b,i,none⟩=some v)/\w.frozen? ⟨b,i,none⟩=false:=by
 cases o with
 |arr mine fz k full=>
  cases c with
  |arr A cap real=>
   cases fz with
   |true=>cases A<;>simp [fp]at hf
   |false=>
    cases A with
    |none=>simp [fp]at hf
    |some p=>
     obtain⟨b',o'⟩:=p;obtain⟨rfl,h1,h2⟩:=hf;have:=(h.2.2.2.2 b o' rfl).2 rfl (i - o') (by omega);rwa [show o'+(i - o')=i by omega]at this
  |_=>simp [fp]at hf
 |vars cs=>
  cases c with
  |vars b'=>
   obtain⟨rfl,h1⟩:=hf;obtain⟨us,h2,h3⟩:=h;have hl:=h2.length;have:=h3 i (us[i]'(by omega)) (by simp);exact⟨⟨_,this.1⟩,this.2.1⟩
  |_=>simp [fp]at hf
 |no=>cases c<;>simp [fp]at hf
 |rows mine k rg hdr inn=>
  cases c with
  |rows A cap real ms=>
   rcases hf with ⟨oo,hA,h1,h2⟩|⟨m,hm,oo,hA,h1,h2⟩
   ·have:=(h.cel b oo hA).2 (i - oo) (by omega);rwa [show oo+(i - oo)=i by omega]at this
   ·obtain⟨j,hj,rfl⟩:=List.mem_iff_getElem.1 hm;have hji:j<inn.length:=by rw[<-h.ml];exact hj
    obtain⟨g1,g2,g3,g4⟩:=h.mem j inn[j] ms[j] (by simp) (by simp);have:=(g4 b oo hA).2 (i - oo) (by rw[<-g1];omega);rwa [show oo+(i - oo)=i by omega]at this
  |_=>exact h.elim
theorem MemOk.mono {w w':World} {M M':Nat->Nat->Prop} {k:Kd} {xs:List k.Ty} {m:Option (Nat×Nat)×Nat×Nat} (h1:Keeps w M w' M')
  (h4:∀b i v,seg k m b i->w.cell? ⟨b,i,none⟩=some v->w'.cell? ⟨b,i,none⟩=some v/\w'.frozen? ⟨b,i,none⟩=w.frozen? ⟨b,i,none⟩) (h:MemOk w M k xs m):MemOk w' M' k xs m:=by
 obtain⟨a1,a2,a3,a4⟩:=h;refine⟨a1,a2,a3,fun b o hA=> ?_⟩;obtain⟨b1,b2⟩:=a4 b o hA;refine⟨fun i x hx=> ?_,fun j hj=> ?_⟩
 ·obtain⟨es,c1,c2⟩:=b1 i x hx;refine⟨es,c1.mono h1,fun j v hj=>(h4 b _ v ⟨o,hA,by omega,?_⟩ (c2 j v hj)).1⟩;have hlt:j<k.sz:=by rw[<-c1.len];exact(List.getElem?_eq_some_iff.1 hj).1
  have hil:i<xs.length:=(List.getElem?_eq_some_iff.1 hx).1;have:(i+1)*k.sz<=m.2.1*k.sz:=Nat.mul_le_mul_right _ (by omega);rw[Nat.add_mul]at this;omega
 ·obtain⟨⟨v,d1⟩,d2⟩:=b2 j hj;have:=h4 b (o+j) v ⟨o,hA,by omega,by rw[a1];omega⟩ d1;exact⟨⟨v,this.1⟩,by rw[this.2];exact d2⟩
theorem RowsOk.mono {w w':World} {M M':Nat->Nat->Prop} {mine:Bool} {k:Kd} {rg:Nat} {hdr:List (Nat×Nat)} {inn:List (List k.Ty)} {A:Option (Nat×Nat)} {cap real:Nat} {ms:List (Option (Nat×Nat)×Nat×Nat)} (h1:Keeps w M w' M')
  (h4:∀b i v,fp (.rows mine k rg hdr inn) (.rows A cap real ms) b i->w.cell? ⟨b,i,none⟩=some v->w'.cell? ⟨b,i,none⟩=some v/\w'.frozen? ⟨b,i,none⟩=w.frozen? ⟨b,i,none⟩) (h:RowsOk w M mine k hdr inn A cap real ms):RowsOk w' M' mine k hdr inn A cap real ms:=by
 refine⟨h.len,h.full,h.cr,h.mcap,h.non,h.ml,h.hd,fun b o hA=> ?_,fun j xs m hx hm=>(h.mem j xs m hx hm).mono h1 fun b i v hs=>h4 b i v (.inr ⟨m,List.mem_of_getElem? hm,hs⟩),h.dj,h.dO⟩;obtain⟨c1,c2⟩:=h.cel b o hA;refine⟨fun i p m hp hm=> ?_,fun j hj=> ?_⟩
 ·obtain⟨u,d1,d2⟩:=c1 i p m hp hm;have hil:i<hdr.length:=(List.getElem?_eq_some_iff.1 hp).1;have:=h.len;exact⟨u,(h4 b _ u (.inl ⟨o,hA,by omega,by omega⟩) d1).1,d2⟩
 ·obtain⟨⟨v,d1⟩,d2⟩:=c2 j hj;have:=h4 b (o+j) v (.inl ⟨o,hA,by omega,by omega⟩) d1;exact⟨⟨v,this.1⟩,by rw[this.2];exact d2⟩
theorem OR.mono {w w':World} {M M' Mb Mb':Nat->Nat->Prop} {H H':Nat->Nat×AO} {α α':Nat->CO} (h1:Keeps w M w' M') (h2:Keeps w Mb w' Mb') (h3:Goes H α H' α')
  {o:AO} {c:CO} (h4:∀b i v,fp o c b i->w.cell? ⟨b,i,none⟩=some v->w'.cell? ⟨b,i,none⟩=some v/\w'.frozen? ⟨b,i,none⟩=w.frozen? ⟨b,i,none⟩) (h:OR w M Mb H α o c):OR w' M' Mb' H' α' o c:=by
 cases o with
 |arr mine fz k full=>
  cases c with
  |arr A cap real=>
   obtain⟨a1,a2,a3,a4,a5⟩:=h;refine⟨a1,a2,a3,a4,fun b o hA=> ?_⟩;obtain⟨b1,b2⟩:=a5 b o hA;refine⟨fun i x hx=> ?_,fun hz j hj=> ?_⟩
   ·obtain⟨es,c1,c2,c3⟩:=b1 i x hx;refine⟨es,c1.mono h1,?_,?_⟩
    ·intro j v hj;have hlt:j<k.sz:=by rw[<-c1.len];exact(List.getElem?_eq_some_iff.1 hj).1
     have hil:i<full.length:=(List.getElem?_eq_some_iff.1 hx).1;cases fz with
     |true=>exact(h1 b _ v (c2 j v hj) (c3 rfl j hlt)).1
     |false=>
      refine(h4 b _ v ?_ (c2 j v hj)).1;subst hA;refine⟨rfl,by omega,?_⟩;have:(i+1)*k.sz<=cap*k.sz:=Nat.mul_le_mul_right _ (by omega);rw[Nat.add_mul]at this;omega
    ·intro hz j hj hm;have hjl:j<es.length:=by rw[c1.len];exact hj
     exact(h1 b _ es[j] (c2 j _ (by simp [hjl])) (c3 hz j hj)).2 hm
   ·obtain⟨⟨v,d1⟩,d2⟩:=b2 hz j hj;have:=h4 b (o+j) v (by subst hA;subst hz;exact⟨rfl,by omega,by omega⟩) d1;exact⟨⟨v,this.1⟩,by rw[this.2];exact d2⟩
  |_=>exact h
 |vars cs=>
  cases c with
  |vars b=>
   obtain⟨us,a1,a2⟩:=h;refine⟨us,a1.mono (VR0.mono h1 h2 h3),fun j u hj=> ?_⟩;obtain⟨d1,d2,d3⟩:=a2 j u hj;have hl:=a1.length;have hjl:j<us.length:=(List.getElem?_eq_some_iff.1 hj).1;have:=h4 b j u ⟨rfl,by omega⟩ d1;exact⟨this.1,by rw[this.2];exact d2,d3⟩
  |_=>exact h
 |no=>trivial
 |rows mine k rg hdr inn=>
  cases c with
  |rows A cap real ms=>exact RowsOk.mono h1 h4 h
  |_=>exact h
theorem OR.lt {w:World} {M Mb:Nat->Nat->Prop} {H:Nat->Nat×AO} {α:Nat->CO} {o:AO} {c:CO} (h:OR w M Mb H α o c) {b i:Nat} (hf:fp o c b i):b<w.heap.size:=by
 obtain⟨⟨v,hv⟩,_⟩:=h.cell hf;exact World.block_lt_of_cell? _ _ hv
section
variable {E:En} {S:St} {α:Nat->CO} {a:Act} {w:World}
theorem Inv.change2 (h:Inv E S α a w) (D:Nat->Prop) {H':Nat->Nat×AO} {α':Nat->CO} {w':World}
  (hold:∀l,¬D l->H' l=S.heap l/\α' l=α l)
  (hcell:∀b o v,w.cell? ⟨b,o,none⟩=some v->(∀l,D l->¬fp (S.heap l).2 (α l) b o)->w'.cell? ⟨b,o,none⟩=some v/\w'.frozen? ⟨b,o,none⟩=w.frozen? ⟨b,o,none⟩)
  (hfr:Fr E.W0 E.w0 w')
  (hfp:∀l,D l->∀b o,fp (H' l).2 (α' l) b o->(∃l',D l'/\fp (S.heap l').2 (α l') b o)\/w.heap.size<=b)
  (hfp2:∀l l' b o,D l->D l'->l≠l'->fp (H' l).2 (α' l) b o->fp (H' l').2 (α' l') b o->False)
  (hmine:∀l,D l->∀b o,fp (H' l).2 (α' l) b o->E.w0.heap.size<=b\/(E.W0 b o/\isMine (H' l).2=false))
  (hfrn:∀l,D l->isMine (H' l).2=false->Frn (α' l) (E.γ l))
  (hgo:Goes S.heap α H' α')
  (hor:Keeps w (MM E.M0 S.heap α) w' (MM E.M0 H' α')->Keeps w (MM E.W0 S.heap α) w' (MM E.W0 H' α')->
   ∀l,D l->OR w' (MM E.M0 H' α') (MM E.W0 H' α') H' α' (H' l).2 (α' l)):
  Inv E {S with heap:=H'} α' a w'/\Keeps w (MM E.M0 S.heap α) w' (MM E.M0 H' α')/\Keeps w (MM E.W0 S.heap α) w' (MM E.W0 H' α'):=by
 have hfrom:∀l b o,fp (H' l).2 (α' l) b o->(∃l',fp (S.heap l').2 (α l') b o)\/w.heap.size<=b:=by
  intro l b o hf
  by_cases hD:D l
  ·rcases hfp l hD b o hf with ⟨l',_,h2⟩|h2
   ·exact .inl ⟨l',h2⟩
   ·exact .inr h2
  ·obtain⟨e1,e2⟩:=hold l hD;rw[e1,e2]at hf;exact .inl ⟨l,hf⟩
 have keeps:∀U:Nat->Nat->Prop,Keeps w (MM U S.heap α) w' (MM U H' α'):=by
  intro U b o v hc hn;refine⟨(hcell b o v hc (fun l _ hf=>hn (.inr ⟨l,hf⟩))).1,?_⟩
  rintro (hu|⟨l,hf⟩)
  ·exact hn (.inl hu)
  ·rcases hfrom l b o hf with ⟨l',hf⟩|hlt
   ·exact hn (.inr ⟨l',hf⟩)
   ·have:=World.block_lt_of_cell? _ _ hc;simp at this;omega
 refine⟨⟨hfr,?_,?_,?_,?_,h.dfr,h.siz,?_⟩,keeps _,keeps _⟩
 ·intro l l' b o hne h1 h2;dsimp only at h1 h2
  by_cases hD:D l
  ·by_cases hD':D l'
   ·exact hfp2 l l' b o hD hD' hne h1 h2
   ·obtain⟨e1,e2⟩:=hold l' hD';rw[e1,e2]at h2;rcases hfp l hD b o h1 with ⟨l3,hD3,h3⟩|hge
    ·exact h.dsj l3 l' b o (fun e=>hD' (e▸hD3)) h3 h2
    ·have:=(h.obj l').lt h2;omega
  ·obtain⟨e1,e2⟩:=hold l hD;rw[e1,e2]at h1
   by_cases hD':D l'
   ·rcases hfp l' hD' b o h2 with ⟨l3,hD3,h3⟩|hge
    ·exact h.dsj l3 l b o (fun e=>hD (e▸hD3)) h3 h1
    ·have:=(h.obj l).lt h1;omega
   ·obtain⟨e1,e2⟩:=hold l' hD';rw[e1,e2]at h2;exact h.dsj l l' b o hne h1 h2
 ·intro l b o hf;dsimp only at hf ⊢
  by_cases hD:D l
  ·exact hmine l hD b o hf
  ·obtain⟨e1,e2⟩:=hold l hD;rw[e1,e2]at hf;rw[e1];exact h.new l b o hf
 ·intro l;dsimp only
  by_cases hD:D l
  ·exact hor (keeps _) (keeps _) l hD
  ·obtain⟨e1,e2⟩:=hold l hD;rw[e1,e2];refine OR.mono (keeps _) (keeps _) hgo ?_ (h.obj l);intro b i v hf hc;refine hcell b i v hc (fun l' hD' hf'=> ?_);exact h.dsj l l' b i (fun e=>hD (e▸hD')) hf hf'
 ·intro s;exact(h.slt s).mono (VR0.mono (keeps _) (keeps _) hgo)
 ·intro l hm
  by_cases hD:D l
  ·exact hfrn l hD hm
  ·obtain⟨e1,e2⟩:=hold l hD;rw[e2];dsimp only at hm;rw[e1]at hm;exact h.frn l hm
theorem Inv.change (h:Inv E S α a w) (D:Nat->Prop) {H':Nat->Nat×AO} {α':Nat->CO} {w':World}
  (hold:∀l,¬D l->H' l=S.heap l/\α' l=α l)
  (hcell:∀b o v,w.cell? ⟨b,o,none⟩=some v->(∀l,D l->¬fp (S.heap l).2 (α l) b o)->w'.cell? ⟨b,o,none⟩=some v/\w'.frozen? ⟨b,o,none⟩=w.frozen? ⟨b,o,none⟩)
  (hfr:Fr E.W0 E.w0 w')
  (hfp:∀l,D l->∀b o,fp (H' l).2 (α' l) b o->fp (S.heap l).2 (α l) b o\/w.heap.size<=b)
  (hfp2:∀l l' b o,D l->D l'->l≠l'->w.heap.size<=b->fp (H' l).2 (α' l) b o->fp (H' l').2 (α' l') b o->False)
  (hmine:∀l,D l->∀b o,fp (H' l).2 (α' l) b o->b<w.heap.size->isMine (S.heap l).2=false->isMine (H' l).2=false)
  (hfrn:∀l,D l->isMine (H' l).2=false->Frn (α' l) (E.γ l))
  (hgo:Goes S.heap α H' α')
  (hor:Keeps w (MM E.M0 S.heap α) w' (MM E.M0 H' α')->Keeps w (MM E.W0 S.heap α) w' (MM E.W0 H' α')->
   ∀l,D l->OR w' (MM E.M0 H' α') (MM E.W0 H' α') H' α' (H' l).2 (α' l)):
  Inv E {S with heap:=H'} α' a w'/\Keeps w (MM E.M0 S.heap α) w' (MM E.M0 H' α')/\Keeps w (MM E.W0 S.heap α) w' (MM E.W0 H' α'):=by
 refine h.change2 D hold hcell hfr (fun l hD b o hf=>(hfp l hD b o hf).imp (fun hf=>⟨l,hD,hf⟩) id) (fun l l' b o hD hD' hne h1 h2=> ?_) (fun l hD b o hf=> ?_) hfrn hgo hor
 ·by_cases hge:w.heap.size<=b
  ·exact hfp2 l l' b o hD hD' hne hge h1 h2
  ·exact h.dsj l l' b o hne ((hfp l hD b o h1).resolve_right hge) ((hfp l' hD' b o h2).resolve_right hge)
 ·rcases hfp l hD b o hf with hf'|hge
  ·rcases h.new l b o hf' with h1|⟨h1,h2⟩
   ·exact .inl h1
   ·exact .inr ⟨h1,hmine l hD b o hf ((h.obj l).lt hf') h2⟩
  ·exact .inl (Nat.le_trans h.fr.size hge)
theorem act_getD (a:Act) (d:Nat) (u:Value) (s:Nat):(a.put (some d) u).tmps.getD s undef=if s=d/\d<a.tmps.size then u else a.tmps.getD s undef:=by
 simp only[Act.put,Array.getD_eq_getD_getElem?,Array.getElem?_setIfInBounds]
 by_cases h:d=s
 ·subst h
  by_cases h2:d<a.tmps.size
  ·simp [h2]
  ·simp [h2]
 ·have h3:¬(s=d):=fun e=>h e.symm
  simp [h,h3]
theorem Inv.put (h:Inv E S α a w) {d:Nat} {av:AV} {u:Value} (hd:d<E.n) (hv:VR (R0 E S.heap α w) av u):Inv E (S.up (.put d av)) α (a.put (some d) u) w:=by
 refine⟨h.fr,h.dsj,h.new,h.obj,fun s=> ?_,h.dfr,by simpa [Act.put]using h.siz,h.frn⟩;rw[act_getD];simp only[St.up]
 by_cases hs:s=d
 ·subst hs;simpa [h.siz,hd]using hv
 ·have hb:Nat.beq s d=false:=by
   cases hq:Nat.beq s d with
   |false=>rfl
   |true=>exact absurd (Nat.eq_of_beq_eq_true hq) hs
  simpa [hs,hb]using h.slt s
theorem Inv.env (h:Inv E S α a w) {e':Nat->AV} (he:∀s,VR (R0 E S.heap α w) (e' s) (a.tmps.getD s undef)):Inv E {S with env:=e'} α a w:=
 ⟨h.fr,h.dsj,h.new,h.obj,he,h.dfr,h.siz,h.frn⟩
end
end Go.Cm
