import Derived.Test.YtdpljomfkoojnaaGreatDoorCmL
set_option linter.unusedVariables false
namespace Go.Cm
def frz1:Nat×AO->Nat×AO
 |(g, .arr m _ k f)=>(g, .arr m true k f)
 |x=>x
def frz (ls:List Nat) (H:Nat->Nat×AO):Nat->Nat×AO:=fun l=>if l∈ls then frz1 (H l)else H l
theorem freezes_ups {S:St} :∀ {ls:List Nat} {us:List Up},(freezes ls).ev S=some us->∀S':St,S'.ups us= {S' with heap:=fun l=>if l∈ls then frz1 (S.heap l)else S'.heap l}
 | [],us,h,S'=>by
  rw[<-ret_ev h];simp [St.ups]
 |l::ls,us,h,S'=>by
  simp only[freezes,Cm.ev]at h;split at h
  ·rename_i mine z k full hob;obtain⟨vs,h1,h2⟩:=bind_ev h;rw[<-ret_ev h2];have ih:=freezes_ups h1 (S'.up (.set l (S.heap l).1 (.arr mine true k full)));simp only[St.ups,List.foldl_cons]at ih ⊢;rw[ih];simp only[St.up];congr 1;funext t;rw[beq_iff]
   by_cases ht:t∈ls
   ·simp [ht]
   ·by_cases hl:t=l
    ·subst hl;have:S.heap t=((S.heap t).1,(S.heap t).2):=rfl;rw[this,hob];simp [ht,frz1]
    ·simp [ht,hl]
  ·exact(fail_ev h).elim
section
variable {E:En} {S:St} {α:Nat->CO} {a:Act} {w:World}
theorem frz1_shape {o:Nat×AO} {c:CO} :(frz1 o).1=o.1/\((frz1 o).2=o.2\/(c=c/\∃m z k f,o.2= .arr m z k f/\(frz1 o).2= .arr m true k f)):=by
 obtain⟨g,ob⟩:=o;cases ob with
 |arr m z k f=>exact⟨rfl, .inr ⟨rfl,m,z,k,f,rfl,rfl⟩⟩
 |_=>exact⟨rfl, .inl rfl⟩
theorem frz_goes (ls:List Nat) (H:Nat->Nat×AO) (α:Nat->CO) (hor:∀l∈ls,∃A cap real,α l= .arr A cap real):Goes H α (frz ls H) α:=by
 intro l;unfold frz;split
 ·rename_i hl;obtain⟨A,cap,real,hα⟩:=hor l hl;obtain⟨h1,h2⟩:=frz1_shape (o:=H l) (c:=α l);rw[h1];refine⟨Nat.le_refl _,fun _=> ?_⟩;rcases h2 with h2|⟨_,m,z,k,f,h3,h4⟩
  ·exact .inl ⟨h2,rfl⟩
  ·right
   rw[h3,h4,hα];exact⟨rfl,rfl,rfl,rfl⟩
 ·exact⟨Nat.le_refl _,fun _=> .inl ⟨rfl,rfl⟩⟩
theorem arr_co (h:Inv E S α a w) {l:Nat} {m z:Bool} {k:Kd} {full:List k.Ty} (ho:(S.heap l).2= .arr m z k full):∃A cap real,α l= .arr A cap real:=by
 have:=h.obj l;rw[ho]at this;cases hα:α l with
 |arr A cap real=>exact⟨_,_,_,rfl⟩
 |no=>rw[hα]at this;exact this.elim
 |rows A c r ms=>rw[hα]at this;exact this.elim
 |vars b=>rw[hα]at this;exact this.elim
theorem vars_co (h:Inv E S α a w) {l:Nat} {cs:List A0} (ho:(S.heap l).2= .vars cs):∃b,α l= .vars b:=by
 have:=h.obj l;rw[ho]at this;cases hα:α l with
 |vars b=>exact⟨_,rfl⟩
 |no=>rw[hα]at this;exact this.elim
 |rows A c r ms=>rw[hα]at this;exact this.elim
 |arr A c r=>rw[hα]at this;exact this.elim
theorem mine_new (h:Inv E S α a w) {l b o:Nat} (hf:fp (S.heap l).2 (α l) b o) (hm:isMine (S.heap l).2=true):E.w0.heap.size<=b:=by
 rcases h.new l b o hf with h1|⟨_,h1⟩
 ·exact h1
 ·rw[hm]at h1;cases h1
theorem frz_avoid (h:Inv E S α a w) {ls:List Nat} (hm:∀l∈ls,∃k full,(S.heap l).2= .arr true false k full) (U0:Nat->Nat->Prop) (hU0:∀b o,U0 b o->E.M0 b o):
  (∀b o,MM U0 (frz ls S.heap) α b o->MM U0 S.heap α b o)/\∀l∈ls,∀b o,MM U0 (frz ls S.heap) α b o->¬fp (S.heap l).2 (α l) b o:=by
 have hsub:∀l b o,fp (frz ls S.heap l).2 (α l) b o->l∉ls/\fp (S.heap l).2 (α l) b o:=by
  intro l b o hf;unfold frz at hf;split at hf
  ·rename_i hl;obtain⟨k,full,ho⟩:=hm l hl;obtain⟨A,cap,real,hα⟩:=arr_co h ho;have:S.heap l=((S.heap l).1,(S.heap l).2):=rfl;rw[this,ho,hα]at hf;cases A<;>simp [frz1,fp]at hf
  ·rename_i hl;exact⟨hl,hf⟩
 refine⟨fun b o hu=> ?_,fun l hl b o hu hf=> ?_⟩
 ·rcases hu with hu|⟨l,hf⟩
  ·exact .inl hu
  ·exact .inr ⟨l,(hsub l b o hf).2⟩
 ·obtain⟨k,full,ho⟩:=hm l hl;rcases hu with hu|⟨l',hf'⟩
  ·have:=mine_new h hf (by rw[ho];rfl);have:=E.hM b o (hU0 b o hu);omega
  ·obtain⟨h1,h2⟩:=hsub l' b o hf';exact h.dsj l l' b o (fun e=>h1 (e▸hl)) hf h2
theorem frz_inv (h:Inv E S α a w) {ls:List Nat} (hm:∀l∈ls,∃k full,(S.heap l).2= .arr true false k full):Inv E {S with heap:=frz ls S.heap} α a w:=by
 have hco:∀l∈ls,∃A cap real,α l= .arr A cap real:=fun l hl=>by
  obtain⟨k,full,ho⟩:=hm l hl;exact arr_co h ho
 have hheap:∀l,S.heap l=((S.heap l).1,(S.heap l).2):=fun _=>rfl
 refine(Inv.change h (fun l=>l∈ls) (H':=frz ls S.heap) (α':=α) (w':=w) ?_ ?_ h.fr ?_ ?_ ?_ ?_ (frz_goes ls _ _ hco) ?_).1
 ·intro l hl;exact⟨by simp [frz,hl],rfl⟩
 ·intro b o v hc _;exact⟨hc,rfl⟩
 ·intro l hl b o hf;obtain⟨k,full,ho⟩:=hm l hl;obtain⟨A,cap,real,hα⟩:=hco l hl;simp only[frz,hl,if_true]at hf;rw[hheap l,ho,hα]at hf;cases A<;>simp [frz1,fp]at hf
 ·intro l l' b o hl _ _ _ hf;obtain⟨k,full,ho⟩:=hm l hl;obtain⟨A,cap,real,hα⟩:=hco l hl;simp only[frz,hl,if_true]at hf;rw[hheap l,ho,hα]at hf;cases A<;>simp [frz1,fp]at hf
 ·intro l hl b o hf;obtain⟨k,full,ho⟩:=hm l hl;obtain⟨A,cap,real,hα⟩:=hco l hl;simp only[frz,hl,if_true]at hf;rw[hheap l,ho,hα]at hf;cases A<;>simp [frz1,fp]at hf
 ·intro l hl hmf;obtain⟨k,full,ho⟩:=hm l hl;simp only[frz,hl,if_true]at hmf;rw[hheap l,ho]at hmf;cases hmf
 ·intro k1 k2 l hl;obtain⟨k,full,ho⟩:=hm l hl;obtain⟨A,cap,real,hα⟩:=hco l hl;have hor:=h.obj l;rw[ho,hα]at hor;have hfz:(frz ls S.heap l).2= .arr true true k full:=by
   simp only[frz,hl,if_true];rw[hheap l,ho];rfl
  rw[hfz,hα];obtain⟨c1,c2,c3,c4,c5⟩:=hor;refine⟨c1,c2,c3,c4,fun b o hA=>⟨fun i x hx=> ?_,fun hz=>by cases hz⟩⟩;obtain⟨es,e1,e2,e3⟩:=(c5 b o hA).1 i x hx;refine⟨es,e1.mono k1,e2,fun _ j hj hu=> ?_⟩;refine(frz_avoid h hm E.M0 (fun _ _ h=>h)).2 l hl _ _ hu ?_;rw[ho,hα,hA];refine⟨rfl,by omega,?_⟩;have hi:i<full.length:=(List.getElem?_eq_some_iff.1 hx).1;have:(i+1)*k.sz<=cap*k.sz:=Nat.mul_le_mul_right _ (by omega);rw[Nat.add_mul]at this;omega
theorem Inv.one (h:Inv E S α a w) (l g':Nat) (ob':AO) (co':CO) {w':World}
  (hcell:∀b o v,w.cell? ⟨b,o,none⟩=some v->¬fp (S.heap l).2 (α l) b o->w'.cell? ⟨b,o,none⟩=some v/\w'.frozen? ⟨b,o,none⟩=w.frozen? ⟨b,o,none⟩)
  (hfr:Fr E.W0 E.w0 w')
  (hfp:∀b o,fp ob' co' b o->fp (S.heap l).2 (α l) b o\/w.heap.size<=b)
  (hmine:∀b o,fp ob' co' b o->b<w.heap.size->isMine (S.heap l).2=false->isMine ob'=false)
  (hfrn:isMine ob'=false->Frn co' (E.γ l))
  (hg:(S.heap l).1<=g') (hsh:g'=(S.heap l).1->ShapeLe (S.heap l).2 (α l) ob' co')
  (hor:∀M' Mb' H' α',Keeps w (MM E.M0 S.heap α) w' M'->Keeps w (MM E.W0 S.heap α) w' Mb'->Goes S.heap α H' α'->OR w' M' Mb' H' α' ob' co'):
  Inv E (S.up (.set l g' ob')) (fun m=>if m=l then co' else α m) a w':=by
 have hH:(S.up (.set l g' ob')).heap=fun m=>if m=l then(g',ob')else S.heap m:=by
  funext m;simp only[St.up,beq_iff]
  by_cases hm:m=l<;>simp [hm]
 have hgo:Goes S.heap α (fun m=>if m=l then(g',ob')else S.heap m) (fun m=>if m=l then co' else α m):=by
  intro m
  by_cases hm:m=l
  ·subst hm;simp only[if_true];exact⟨hg,fun he=> .inr (hsh he)⟩
  ·simp only[hm,if_false];exact⟨Nat.le_refl _,fun _=> .inl ⟨by trivial,by trivial⟩⟩
 have:=(Inv.change h (fun m=>m=l) (H':=fun m=>if m=l then(g',ob')else S.heap m) (α':=fun m=>if m=l then co' else α m) (w':=w')
  (fun m hm=>by simp [hm]) (fun b o v hc hn=>hcell b o v hc (hn l rfl)) hfr
  (fun m hm b o hf=>by subst hm;exact hfp b o (by simpa using hf))
  (fun m m' b o hm hm' hne=>by subst hm;exact absurd hm'.symm hne)
  (fun m hm b o hf=>by subst hm;simp only[if_true]at hf ⊢;exact hmine b o hf)
  (fun m hm hf=>by subst hm;simp only[if_true]at hf ⊢;exact hfrn hf)
  hgo
  (fun k1 k2 m hm=>by subst hm;simp only[if_true];exact hor _ _ _ _ k1 k2 hgo)).1
 rw[<-hH]at this;exact this
def takeH (H:Nat->Nat×AO) (l l2 g':Nat) (ob':AO):Nat->Nat×AO:=fun m=>if m=l then(g',ob')else if m=l2 then((H l2).1+1, .no)else H m
theorem Inv.take (h:Inv E S α a w) {l l2:Nat} (hne:l≠l2) (hm2:isMine (S.heap l2).2=true) (g':Nat) (ob':AO) (co':CO) {w':World}
  (hcell:∀b o v,w.cell? ⟨b,o,none⟩=some v->¬fp (S.heap l).2 (α l) b o->w'.cell? ⟨b,o,none⟩=some v/\w'.frozen? ⟨b,o,none⟩=w.frozen? ⟨b,o,none⟩)
  (hfr:Fr E.W0 E.w0 w')
  (hfp:∀b o,fp ob' co' b o->(fp (S.heap l).2 (α l) b o/\isMine (S.heap l).2=true)\/fp (S.heap l2).2 (α l2) b o\/w.heap.size<=b)
  (hmi:isMine ob'=true)
  (hg:(S.heap l).1<=g') (hsh:g'=(S.heap l).1->ShapeLe (S.heap l).2 (α l) ob' co')
  (hor:∀M' Mb' H' α',Keeps w (MM E.M0 S.heap α) w' M'->Keeps w (MM E.W0 S.heap α) w' Mb'->OR w' M' Mb' H' α' ob' co'):
  Inv E {S with heap:=takeH S.heap l l2 g' ob'} (fun m=>if m=l then co' else if m=l2 then .no else α m) a w':=by
 have hl:takeH S.heap l l2 g' ob' l=(g',ob'):=by simp [takeH]
 have hl2:takeH S.heap l l2 g' ob' l2=((S.heap l2).1+1, .no):=by simp [takeH,Ne.symm hne]
 have hcl:∀b o,fp ob' co' b o->E.w0.heap.size<=b:=by
  intro b o hf;rcases hfp b o hf with ⟨h1,h2⟩|h1|h1
  ·exact mine_new h h1 h2
  ·exact mine_new h h1 hm2
  ·exact Nat.le_trans h.fr.size h1
 refine(h.change2 (fun m=>m=l\/m=l2) (H':=takeH S.heap l l2 g' ob') (α':=fun m=>if m=l then co' else if m=l2 then .no else α m) (w':=w') ?_ ?_ hfr ?_ ?_ ?_ ?_ ?_ ?_).1
 ·intro m hm;simp only[not_or]at hm;simp [takeH,hm.1,hm.2]
 ·intro b o v hc hn;exact hcell b o v hc (hn l (.inl rfl))
 ·rintro m (rfl|rfl) b o hf
  ·simp only[hl,if_true]at hf;rcases hfp b o hf with ⟨h1,_⟩|h1|h1
   ·exact .inl ⟨m, .inl rfl,h1⟩
   ·exact .inl ⟨l2, .inr rfl,h1⟩
   ·exact .inr h1
  ·simp only[hl2,Ne.symm hne,if_true,if_false]at hf;exact hf.elim
 ·rintro m m' b o (rfl|rfl) (rfl|rfl) hmm hf hf'
  ·exact hmm rfl
  ·simp only[hl2,Ne.symm hne,if_true,if_false]at hf';exact hf'
  ·simp only[hl2,Ne.symm hne,if_true,if_false]at hf;exact hf
  ·exact hmm rfl
 ·rintro m (rfl|rfl) b o hf
  ·simp only[hl,if_true]at hf;exact .inl (hcl b o hf)
  ·simp only[hl2,Ne.symm hne,if_true,if_false]at hf;exact hf.elim
 ·rintro m (rfl|rfl) hf
  ·simp only[hl]at hf;rw[hmi]at hf;cases hf
  ·simp only[hl2]at hf;cases hf
 ·intro m
  by_cases hm:m=l
  ·subst hm;simp only[hl,if_true];exact⟨hg,fun he=> .inr (hsh he)⟩
  ·by_cases hm2:m=l2
   ·subst hm2;simp only[hl2];exact⟨by omega,fun he=>by omega⟩
   ·simp only[takeH,hm,hm2,if_false];exact⟨Nat.le_refl _,fun _=> .inl ⟨trivial,trivial⟩⟩
 ·rintro k1 k2 m (rfl|rfl)
  ·simp only[hl,if_true];exact hor _ _ _ _ k1 k2
  ·simp only[hl2]
   trivial
theorem Inv.made (h:Inv E S α a w) (l:Nat) (ob':AO) (co':CO) (cs:Array Value) (e:Nat) {w1:World} (hw1:w1.heap=w.heap) (hw2:w1.os=w.os/\w1.tape=w.tape/\w1.output=w.output)
  (hmi:isMine ob'=true) (hfp:∀b o,fp ob' co' b o->w.heap.size<=b)
  (hor:∀M' Mb' H' α',Keeps w (MM E.M0 S.heap α) (w1.alloc (.cells cs e)) M'->Keeps w (MM E.W0 S.heap α) (w1.alloc (.cells cs e)) Mb'->Goes S.heap α H' α'->OR (w1.alloc (.cells cs e)) M' Mb' H' α' ob' co'):
  Inv E (S.up (.set l ((S.heap l).1+1) ob')) (fun m=>if m=l then co' else α m) a (w1.alloc (.cells cs e)):=by
 have hb:∀b,b<w.heap.size->(w1.alloc (.cells cs e)).heap[b]? =w.heap[b]? :=by
  intro b hb;rw[<-hw1];exact Go.RowKit.Below.heap_alloc _ _ _ (by rw[hw1];exact hb)
 refine h.one l _ ob' co' ?_ ?_ (fun b o hf=> .inr (hfp b o hf)) (fun b o hf hlt=>absurd (hfp b o hf) (by omega)) (fun hm=>by rw[hmi]at hm;cases hm) (by omega) (by omega) hor
 ·intro b o v hc _;have:=hb b (World.block_lt_of_cell? _ _ hc);simp only[World.cell?,World.frozen?]at hc ⊢;rw[this];exact⟨hc,rfl⟩
 ·refine Fr.trans h.fr ⟨hw2.1,hw2.2.1,hw2.2.2,?_,fun b hlt=> .inl (hb b hlt)⟩;rw[World.size_alloc,hw1];omega
end
end Go.Cm
