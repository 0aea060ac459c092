import Derived.Test.YtdpljomfkoojnaaGreatDoorCmR
set_option linter.unusedVariables false
namespace Go.Cm
section
variable {cx:Cx} {E:En} {S:St} {α:Nat->CO} {a:Act} {w:World} {o:Oper} {us:List Up}
theorem al_take {k:Kd} {w:World} {M:Nat->Nat->Prop} {ys:List k.Ty} {uss:List (List Value)} (h:Al (fun y es=>RdC w M k es y) ys uss) (n:Nat):Al (fun y es=>RdC w M k es y) (ys.take n) (uss.take n):=h.take n
theorem flatten_take_get (sz:Nat):∀(uss:List (List Value)) (n j:Nat) (v:Value),(uss.take n).flatten[j]? =some v->uss.flatten[j]? =some v
 | [],n,j,v,h=>by simp at h
 |u::uss,0,j,v,h=>by simp at h
 |u::uss,n+1,j,v,h=>by
  rw[List.take_succ_cons,List.flatten_cons,List.getElem?_append]at h;rw[List.flatten_cons,List.getElem?_append];split at h
  ·rename_i hl;rw[if_pos hl];exact h
  ·rename_i hl;rw[if_neg hl];exact flatten_take_get sz uss n _ v h
theorem step_copy (ht:TdsOk cx E.P) (h:Inv E S α a w) (hd:dstOk E.n o) {c:Call} (ho:o.op= .call c) (hc:c.callee= .builtin .copy) {t:Nat} (hat:c.argTypes[0]? =some t) {s x:A0}
  (hv:Al (VR (R0 E S.heap α w)) [.one false [s], .one false [x]] (c.args.toList.map a.eval))
  (hs:(sCopy cx o t s x).ev S=some us):Does E S a w o us:=by
 obtain⟨u,u',hmap,hu,hu'⟩:=args2 h hv;unfold sCopy at hs;obtain⟨d,k0,e,hf,hk,hfe,h1⟩:=elOf_ev hs;clear hs;have hun:=(ht t d hf).und;rw[hk]at hun;obtain⟨i,i1,i2,i3,i4⟩:=(ht _ e hfe).info;have hgo:∀ {r:Value} {w':World},(Builtin.copy_ c.argTypes o.type #[u,u']).run E.P w= .ok r w'->(execOp a.eval o).run E.P w= .ok (.value r) w':=by
  intro r w' hr;simp [execOp,ho,resolve,hc,hmap,invoke,builtin,hr]
 cases s<;>try exact(fail_ev h1).elim
 rename_i l g vw;simp only[Cm.ev]at h1;split at h1
 case isFalse=>exact(fail_ev h1).elim
 rename_i hg;split at h1
 case h_2=>exact(fail_ev h1).elim
 rename_i mine k full hob;split at h1
 case isFalse=>exact(fail_ev h1).elim
 rename_i hsz;obtain⟨ys,h2,A,cp,uss,rfl,q2,q3⟩:=tail_ev h hu' h1;rw[<-ret_ev h2];have hp:=hu.1.2 hg;have hor:=h.obj l;obtain⟨A0,cap0,real,hα⟩:=arr_co h hob;rw[hob,hα]at hp hor;obtain⟨g1,A',rfl,g3,g4⟩:=hp;obtain⟨c1,c2,c3,c4,c5⟩:=hor;have hpos:=Kd.sz_pos k;have hmin:Nat.min ys.length (vlen full vw)=min ys.length (vlen full vw):=rfl;have htl:(ys.take (vlen full vw)).length=min ys.length (vlen full vw):=by rw[List.length_take,Nat.min_comm]
 have q2':=al_take q2 (vlen full vw);have hfl:(uss.take (vlen full vw)).flatten.length=min ys.length (vlen full vw)*k.sz:=by
  rw[flatten_length k.sz _ (al_len q2'),<-q2'.length,htl]
 by_cases hn:min ys.length (vlen full vw)=0
 ·
  have hte:ys.take (vlen full vw)=[]:=List.eq_nil_of_length_eq_zero (by rw[htl,hn]);have hrun:(Builtin.copy_ c.argTypes o.type #[.slice A' (vlen full vw) (real - voff vw), .slice A ys.length cp]).run E.P w= .ok (.int .i64 0) w:=by
   have hfc:(Builtin.firstCells i.size 0 (.slice A ys.length cp)).run E.P w= .ok #[] w:=by
    cases A with
    |none=>simp [Builtin.firstCells]
    |some ad=>simp [Builtin.firstCells,loadCells,loadCellsFrom]
   have hm0:ys.length.min (vlen full vw)=0:=hn;cases A'<;>simp [Builtin.copy_,hat,run_underlying hun,Builtin.lenOf,sizeOf,typeInfo,i1,hm0,hfc,storeCells,goInt]
  have hspl:splice full (ys.take (vlen full vw)) (voff vw)=full:=by
   rw[hte];simp [splice]
  rw[hspl,hn]
  have hi:=h.one l g (.arr mine false k full) (α l) (w':=w) (fun b i v hc _=>⟨hc,rfl⟩) h.fr (fun b i hf=> .inl (by rw[hob];exact hf)) (fun b i _ _ hm=>by rw[hob]at hm;exact hm) (fun hm=>h.frn l (by rw[hob];exact hm)) (by omega)
   (fun _=>by rw[hob,hα];exact⟨rfl,rfl,rfl,rfl⟩) (fun M' Mb' H' α' k1 k2 hgo'=>by
    have:=OR.mono k1 k2 hgo' (fun b i v _ hc=>⟨hc,rfl⟩) (h.obj l);rwa [hob]at this)
  refine Does.val (α':=fun m=>if m=l then α l else α m) (hgo hrun) ?_;rw[ups_cons];exact hi.dput hd (vr_vl rfl)
 ·have hvlen:vlen full vw≠0:=by omega
  obtain⟨b,oo,hA,rfl⟩:=g4 (by omega);subst hA;obtain⟨b',o',rfl,q4⟩:=q3 (by omega);obtain⟨c6,c7⟩:=c5 b oo rfl;have hmul:(voff vw+min ys.length (vlen full vw))*k.sz<=cap0*k.sz:=Nat.mul_le_mul_right _ (by omega);rw[Nat.add_mul]at hmul;have hone:=al_one q2';have hcell:∀j,j<(uss.take (vlen full vw)).flatten.length->(∃v,w.cell? ⟨b,oo+voff vw*k.sz+j,none⟩=some v)/\w.frozen? ⟨b,oo+voff vw*k.sz+j,none⟩=false:=by
   intro j hj;have:=c7 rfl (voff vw*k.sz+j) (by omega);rwa [show oo+(voff vw*k.sz+j)=oo+voff vw*k.sz+j by omega]at this
  have hsome:∀j,j<(uss.take (vlen full vw)).flatten.length->(w.cell? ⟨b,oo+voff vw*k.sz+j,none⟩).isSome=true:=fun j hj=>by
   obtain⟨⟨v,hv⟩,_⟩:=hcell j hj;rw[hv];rfl
  have hfc:(Builtin.firstCells i.size (min ys.length (vlen full vw)) (.slice (some ⟨b',o',none⟩) ys.length cp)).run E.P w= .ok (uss.take (vlen full vw)).flatten.toArray w:=by
   refine run_firstCells_some (P:=E.P) w i.size _ ⟨b',o',none⟩ _ cp _ (by rw[hfl,i2,hsz]) (fun j v hj=> ?_);rw[add_plain];exact q4 j v (flatten_take_get k.sz uss _ j v hj)
  have hst:=run_storeCells_cells (P:=E.P) b (oo+voff vw*k.sz) (uss.take (vlen full vw)).flatten 0 w (by simpa using hsome) (by simpa using fun j hj=>(hcell j hj).2) hone;simp only[Nat.add_zero]at hst;have hrun:(Builtin.copy_ c.argTypes o.type #[.slice (some ⟨b,oo+voff vw*k.sz,none⟩) (vlen full vw) (real - voff vw), .slice (some ⟨b',o',none⟩) ys.length cp]).run E.P w=
    .ok (.int .i64 ((min ys.length (vlen full vw):Nat):Int)) (w.setCells b (oo+voff vw*k.sz) (uss.take (vlen full vw)).flatten):=by
   have hmn:ys.length.min (vlen full vw)=min ys.length (vlen full vw):=rfl;simp only[Builtin.copy_,hat];simp [run_underlying hun,Builtin.lenOf,sizeOf,typeInfo,i1,hmn,hfc,hst,goInt]
  have hfp:∀q,q<(uss.take (vlen full vw)).flatten.length->fp (S.heap l).2 (α l) b (oo+voff vw*k.sz+q):=fun q hq=>by
   rw[hob,hα];exact⟨rfl,by omega,by omega⟩
  have hspl:voff vw+(ys.take (vlen full vw)).length<=full.length:=by rw[htl];omega
  have hi:=h.one l g (.arr mine false k (splice full (ys.take (vlen full vw)) (voff vw))) (.arr (some (b,oo)) cap0 real) (w':=w.setCells b (oo+voff vw*k.sz) (uss.take (vlen full vw)).flatten)
   (fun b1 i1 v1 hc hn=>by
    refine⟨?_,World.frozen?_setCells _ _ _ _ _⟩;rw[setCells_out]
    ·exact hc
    ·rintro ⟨rfl,w1,w2⟩
     have:=hfp (i1 - (oo+voff vw*k.sz)) (by omega);rw[show oo+voff vw*k.sz+(i1 - (oo+voff vw*k.sz))=i1 by omega]at this;exact hn this) (own_fr h hfp) (fun b1 i1 hf=> .inl (by rw[hob,hα];exact hf)) (fun b1 i1 _ _ hm=>by rw[hob]at hm;exact hm) (fun hm=>by rw[<-hα];exact h.frn l (by rw[hob];exact hm)) (by omega)
   (fun _=>by rw[hob,hα];exact⟨rfl,splice_length _ _ _ hspl,rfl,rfl⟩)
   (fun M' Mb' H' α' k1 k2 hgo'=>by
    refine⟨by rw[splice_length _ _ _ hspl];exact c1,c2,c3,(fun h=>by cases h),fun b2 o2 hA2=> ?_⟩;cases hA2;refine⟨fun q y hy=> ?_,fun _ j hj=> ?_⟩
    ·rw[splice_get _ _ _ _ hspl]at hy;split at hy
     ·rename_i hr;obtain⟨es,e1,e2⟩:=flat_elems q2' (cs:=fun j=>(w.setCells b (oo+voff vw*k.sz) (uss.take (vlen full vw)).flatten).cell? ⟨b,oo+voff vw*k.sz+j,none⟩) (fun j v hj=>setCells_get w b _ _ hsome hj) (q - voff vw) y hy;refine⟨es,e1.mono k1,fun j v hj=> ?_,(fun hz=>by cases hz)⟩;have:=e2 j v hj;have hmul3:(q - voff vw)*k.sz+voff vw*k.sz=q*k.sz:=by rw[<-Nat.add_mul];congr 1;omega
      rwa [show oo+voff vw*k.sz+((q - voff vw)*k.sz+j)=oo+q*k.sz+j by omega]at this
     ·rename_i hr;obtain⟨es,e1,e2,_⟩:=c6 q y hy;refine⟨es,e1.mono k1,fun j v hj=> ?_,(fun hz=>by cases hz)⟩;have hjl:j<k.sz:=by rw[<-e1.len];exact(List.getElem?_eq_some_iff.1 hj).1
      rw[setCells_out]
      ·exact e2 j v hj
      ·rintro ⟨_,w1,w2⟩
       rw[htl]at hr;rw[hfl]at w2
       by_cases hlt:q<voff vw
       ·have:(q+1)*k.sz<=voff vw*k.sz:=Nat.mul_le_mul_right _ (by omega);rw[Nat.add_mul,Nat.one_mul]at this;omega
       ·have:(voff vw+min ys.length (vlen full vw))*k.sz<=q*k.sz:=Nat.mul_le_mul_right _ (by omega);rw[Nat.add_mul]at this;omega
    ·obtain⟨⟨v,s1⟩,s2⟩:=c7 rfl j hj;exact⟨(setCells_like b _ _ w).some s1,by rw[World.frozen?_setCells];exact s2⟩)
  refine Does.val (α':=fun m=>if m=l then .arr (some (b,oo)) cap0 real else α m) (hgo hrun) ?_;rw[ups_cons];exact hi.dput hd (vr_vl rfl)
end
end Go.Cm
