import Derived.Test.YtdpljomfkoojnaaGreatDoorCmP
set_option linter.unusedVariables false
namespace Go.Cm
section
variable {cx:Cx} {E:En} {S:St} {α:Nat->CO} {a:Act} {w:World} {o:Oper} {us:List Up}
theorem packs_sound (h:Inv E S α a w) (k:Kd):∀ {vs:List (Nat×AV)} {ps:List (Nat×Operand)} (m:Nat) {p:Pk (List k.Ty)},Al (fun(v:Nat×AV) (p:Nat×Operand)=>v.1=p.1/\VR (R0 E S.heap α w) v.2 (a.eval p.2)) vs ps->
  (packs k vs m).ev S=some p->
  ∃uss:List (List Value),uss.length=vs.length/\(∀us∈uss,us.length=k.sz/\∀u∈us,u.oneCell'=true)/\
   Al (fun(q:Nat×Value) (r:Nat×List Value)=>q.1=r.1/\q.2.cells=r.2.toArray) (ps.map fun(i,x)=>(i,a.eval x)) ((uss.zipIdx m).map fun p=>(p.2,p.1))/\
   (∀U:Nat->Nat->Prop,(∀b o,U b o->MM E.M0 S.heap α b o)->(∀l∈p.fr,∀b o,U b o->¬fp (S.heap l).2 (α l) b o)->Al (fun x us=>RdC w U k us x) p.x uss)/\
   ∀l∈p.fr,∃k full,(S.heap l).2= .arr true false k full
 | [],_,m,p, .nil,hp=>by
  rw[<-ret_ev hp];exact⟨[],rfl,by simp, .nil,fun _ _ _=> .nil,by simp⟩
 |(i,v)::vs,(i',x)::ps,m,p, .cons hv t,hp=>by
  obtain⟨hi,hv⟩:=hv;simp only at hi hv;subst hi;simp only[packs]at hp;split at hp
  case isFalse=>exact(fail_ev hp).elim
  rename_i hc;obtain⟨rfl,c2,c3⟩:=hc;obtain⟨p1,h1,h2⟩:=bind_ev hp;obtain⟨p2,h3,h4⟩:=bind_ev h2;have hpe:=ret_ev h4;subst hpe;have hpos:=Kd.sz_pos k;obtain⟨ws,w1,w2,w3⟩:=cells_val h hv (by omega) c2;obtain⟨⟨u1,u2,r1,r2,r3,r4⟩,r5,r6⟩:=pack_sound h k false _ _ p1 h1 w2;have hwl:ws.length=k.sz:=by rw[<-w2.length,c3]
  have hu2:u2=[]:=by
   have:=congrArg List.length r1;rw[hwl,List.length_append,r2]at this;exact List.eq_nil_of_length_eq_zero (by omega)
  subst hu2;rw[List.append_nil]at r1;subst r1;obtain⟨uss,s1,s2,s3,s4,s5⟩:=packs_sound h k (i+1) t h3;refine⟨ws::uss,by simp [s1],?_,?_,?_,?_⟩
  ·intro us hu;rcases List.mem_cons.1 hu with rfl|hu
   ·exact⟨hwl,w3⟩
   ·exact s2 us hu
  ·rw[List.zipIdx_cons,List.map_cons,List.map_cons];exact .cons ⟨rfl,w1⟩ s3
  ·intro U hU1 hU2;refine .cons (r4 U hU1 (fun l hl=> ?_)) (s4 U hU1 (fun l hl=>hU2 l (by simp [hl])));rcases hl with hl|hl
   ·exact hU2 l (by simp [hl])
   ·rw[r6 rfl]at hl;simp at hl
  ·intro l hl;rcases List.mem_append.1 hl with hl|hl
   ·exact r5 l hl
   ·exact s5 l hl
theorem run_buildSlice (ht:TdsOk cx E.P) {t n:Nat} {ps:Array (Nat×Operand)} {d e:Td} {k0:Kd} (hf:find t cx.td=some d) (hk:d.k= .sl k0) (hfe:find d.el cx.td=some e) (c2:n*e.k.sz<=16777216) (c3:e.k.zero.isSome=true) {uss:List (List Value)} (s1:uss.length=n)
  (hul:∀us∈uss,us.length=e.k.sz) (s3:Al (fun(q:Nat×Value) (r:Nat×List Value)=>q.1=r.1/\q.2.cells=r.2.toArray) (ps.toList.map fun(i,x)=>(i,a.eval x)) ((uss.zipIdx 0).map fun p=>(p.2,p.1))):
  ∃cells:Array Value,cells.toList=uss.flatten/\(Instr.buildSlice t n (ps.map fun(i,x)=>(i,a.eval x))).run E.P w= .ok (.slice (some ⟨w.heap.size,0,none⟩) n n) (w.alloc (.cells cells d.el)):=by
 have hu:=(ht t d hf).und;rw[hk]at hu;obtain⟨i,i1,i2,i3,i4⟩:=(ht _ e hfe).info;obtain⟨zc,hz⟩:=Option.isSome_iff_exists.1 c3;obtain⟨z,z1,z2⟩:=i4 zc hz;have hpos:=Kd.sz_pos e.k;have hinit:∀zz:Array Value,((Array.range (n*e.k.sz)).map (zz[·%zz.size]!)).size=n*e.k.sz:=by intro zz;simp
 have hfill:∀zz:Array Value,∃cells,Instr.fill (fun i=>some (i*e.k.sz,e.k.sz)) ((Array.range (n*e.k.sz)).map (zz[·%zz.size]!)) (ps.map fun(i,x)=>(i,a.eval x)).toList=some cells/\cells.toList=uss.flatten:=by
  intro zz
  have hal:Al (fun(p:Nat×Value) (q:Nat×List Value)=>(some (p.1*e.k.sz,e.k.sz):Option (Nat×Nat))=some (q.1,q.2.length)/\p.2.cells=q.2.toArray/\q.1+q.2.length<=((Array.range (n*e.k.sz)).map (zz[·%zz.size]!)).size)
    (ps.map fun(i,x)=>(i,a.eval x)).toList ((uss.zipIdx 0).map fun p=>(p.2*e.k.sz,p.1)):=by
   rw[hinit];rw[Array.toList_map];have hidx:∀q∈uss.zipIdx 0,q.2<n/\q.1.length=e.k.sz:=by
    intro q hq;have:=List.mem_zipIdx hq;refine⟨by omega,hul _ ?_⟩;obtain⟨_,_,he⟩:=this;rw[he];exact List.getElem_mem _
   revert s3
   generalize hql:uss.zipIdx 0=ql at hidx;clear hql;generalize (ps.toList.map fun(i,x)=>(i,a.eval x))=pl;intro s3
   induction ql generalizing pl with
   |nil=>
    cases s3;exact .nil
   |cons q ql ih=>
    cases s3 with
    |cons g1 g2=>
     obtain⟨g3,g4⟩:=g1;obtain⟨q1,q2⟩:=hidx q (by simp);refine .cons ⟨by rw[g3,q2],g4,?_⟩ (ih (fun r hr=>hidx r (by simp [hr])) _ g2);rw[q2];have:(q.2+1)*e.k.sz<=n*e.k.sz:=Nat.mul_le_mul_right _ (by omega);rw[Nat.add_mul,Nat.one_mul]at this;exact this
  obtain⟨cells,e1,e2⟩:=fill_run (place:=fun i=>some (i*e.k.sz,e.k.sz)) hal;refine⟨cells,e1,?_⟩;rw[e2];have:=fold_flatten e.k.sz uss 0 [] ((Array.range (n*e.k.sz)).map (zz[·%zz.size]!)).toList hul (by simp) (by rw[Array.length_toList,hinit,s1]);simpa using this
 have g1:¬(16777216<n*e.k.sz):=by omega
 by_cases h0:n*e.k.sz=0
 ·obtain⟨cells,e1,e2⟩:=hfill #[];refine⟨cells,e2,?_⟩;rw[h0]at e1;simp [Instr.buildSlice,run_underlying hu,sizeOf,typeInfo,i1,i2,newRow,h0];simp at e1;rw[e1];simp
 ·obtain⟨cells,e1,e2⟩:=hfill zc.toArray;refine⟨cells,e2,?_⟩;simp [Instr.buildSlice,run_underlying hu,sizeOf,typeInfo,i1,i2,newRow,h0,g1,zeroValue,z1,z2];simp at e1;rw[e1];simp
theorem ups_take2 {S:St} {l l2 g g2:Nat} {ob:AO} {us:List Up} (hne:l≠l2) (h2:(S.heap l2).1=g2):S.ups (.set l g ob:: .set l2 (g2+1) .no::us)=({S with heap:=takeH S.heap l l2 g ob} :St).ups us:=by
 simp only[St.ups,List.foldl_cons,St.up];congr 2;funext m;simp only[beq_iff,takeH]
 by_cases h1:m=l
 ·simp [h1,hne]
 ·by_cases h3:m=l2
  ·simp [h3,h2,Ne.symm hne]
  ·simp [h1,h3]
theorem step_rows1 (ht:TdsOk cx E.P) (h:Inv E S α a w) (hd:dstOk E.n o) {t n:Nat} {ps:Array (Nat×Operand)} (ho:o.op= .buildSlice t n ps) {d e:Td} {k0:Kd} (hf:find t cx.td=some d) (hk:d.k= .sl k0) (hfe:find d.el cx.td=some e) {vs:List (Nat×AV)}
  (hv:Al (fun(v:Nat×AV) (p:Nat×Operand)=>v.1=p.1/\VR (R0 E S.heap α w) v.2 (a.eval p.2)) vs ps.toList) (hs:(sRows1 o e n vs).ev S=some us):Does E S a w o us:=by
 unfold sRows1 at hs;split at hs
 ·rename_i k hek;split at hs
  case isFalse=>exact(fail_ev hs).elim
  rename_i hn;subst hn;obtain⟨qs,h10,rfl⟩:=new_ev hs;rw[<-ret_ev h10];have hps:ps.toList=[]:=by
   cases hq:ps.toList with
   |nil=>rfl
   |cons p r=>rw[hq]at hv;cases hv
  obtain⟨cells,e1,e2⟩:=run_buildSlice (w:=w) (a:=a) ht (n:=0) (ps:=ps) hf hk hfe (by omega) (by rw[hek];rfl) (uss:=[]) rfl (by simp) (by rw[hps];exact .nil);have hcs:cells.size=0:=by rw[<-Array.length_toList,e1];rfl
  exact does_rows0 (t:=d.el) (n:=0) (c:=0) (k:=k) (cs:=cells) (vw:=none) h hd (w1:=w) rfl ⟨rfl,rfl,rfl⟩ hcs (fun i hi=>by omega) rfl rfl (Nat.le_refl _) (by simp [execOp,ho,e2])
 ·rename_i k l2 g2 vw hek;split at hs
  case isFalse=>exact(fail_ev hs).elim
  rename_i hn;obtain⟨⟨hn,hst⟩,hvw,hne⟩:=hn;subst hn;simp only[Cm.ev]at hs;split at hs
  case isFalse=>exact(fail_ev hs).elim
  rename_i hg2;split at hs
  case h_2=>exact(fail_ev hs).elim
  rename_i k2 full hob2;split at hs
  case isFalse=>exact(fail_ev hs).elim
  rename_i hkk;subst hkk;simp only[castL_rfl]at hs;obtain⟨qs,h10,rfl⟩:=new_ev hs;rw[<-ret_ev h10];generalize hpl:ps.toList=pl at hv;cases hv with
  | @cons _ p _ pr hv1 hvr=>
  cases hvr;obtain⟨hi0,hv1⟩:=hv1;have hr:=vr_c0_inv hv1;have hone:=hr.2;have hcells:(a.eval p.2).cells=[a.eval p.2].toArray:=by
   generalize a.eval p.2=u at hone;cases u<;>first|rfl|(simp [Value.oneCell']at hone)
  have hsz1:e.k.sz=1:=by rw[hek];rfl
  obtain⟨cells,e1,e2⟩:=run_buildSlice (w:=w) (a:=a) ht (n:=1) (ps:=ps) hf hk hfe (by rw[hsz1];omega) (by rw[hek];rfl) (uss:=[[a.eval p.2]]) rfl (by simp [hsz1]) (by
   rw[hpl];exact .cons ⟨hi0.symm,hcells⟩ .nil)
  have hcs:cells= #[a.eval p.2]:=by
   apply Array.ext';rw[e1];rfl
  subst hcs;have href:=hr.1.2 hg2;have hor2:=h.obj l2;obtain⟨A2,cap2,real2,hα2⟩:=arr_co h hob2;rw[hob2,hα2]at href hor2;obtain⟨g1,g3⟩:=href;rw[hvw,Nat.zero_mul,Nat.sub_zero]at g3;obtain⟨hM2,hseg⟩:=arr_mem hor2;have hb:∀b,b<w.heap.size->(w.alloc (.cells #[a.eval p.2] d.el)).heap[b]? =w.heap[b]? :=fun b hb=>Go.RowKit.Below.heap_alloc _ _ _ hb
  have hcell:∀b o v,w.cell? ⟨b,o,none⟩=some v->(w.alloc (.cells #[a.eval p.2] d.el)).cell? ⟨b,o,none⟩=some v/\(w.alloc (.cells #[a.eval p.2] d.el)).frozen? ⟨b,o,none⟩=w.frozen? ⟨b,o,none⟩:=by
   intro b o v hc;have:=hb b (World.block_lt_of_cell? _ _ hc);simp only[World.cell?,World.frozen?]at hc ⊢;rw[this];exact⟨hc,rfl⟩
  have hi:=h.take (l:=nm o 0) (l2:=l2) hne (by rw[hob2];rfl) ((S.heap (nm o 0)).1+1) (ao0 true k2 [(full,vlen full vw)]) (.rows (some (w.heap.size,0)) 1 1 [memOf A2 full.length real2]) (w':=w.alloc (.cells #[a.eval p.2] d.el))
   (fun b o v hc _=>hcell b o v hc) (Fr.trans h.fr ⟨rfl,rfl,rfl,by rw[World.size_alloc];omega,fun b hlt=> .inl (hb b hlt)⟩)
   (fun b o hf=>by
    rcases hf with ⟨oo,hq,_⟩|⟨m,hm,hs⟩
    ·cases hq;exact .inr (.inr (Nat.le_refl _))
    ·simp at hm;subst hm;refine .inr (.inl ?_);rw[hob2,hα2];exact hseg b o hs) rfl (by omega) (fun he=>by omega)
   (fun M' Mb' H' α' k1 kb=>by
    have Ms:Mems (w.alloc (.cells #[a.eval p.2] d.el)) M' k2 [full] [memOf A2 full.length real2]:=Mems.one (hM2.mono k1 (fun b i v _ hc=>hcell b i v hc));refine⟨Nat.le_refl _,fun h=>(by cases h),Nat.le_refl _,fun _=>rfl,by simp,Ms.ml,fun i q hq=> ?_,fun b oo hq=> ?_,Ms.mem,Ms.dj,fun m hm b o oo hs hq _ _=> ?_⟩
    ·obtain⟨x,hx,rfl⟩:=hd0_get _ hq
     match i with
     |0=>
      simp at hx;subst hx;refine⟨memOf A2 full.length real2,rfl,?_⟩;show vlen full vw<=full.length;omega
     |i+1=>simp at hx
    ·cases hq;refine⟨fun i q m hq hm=> ?_,fun j hj=> ?_⟩
     ·obtain⟨x,hx,rfl⟩:=hd0_get _ hq
      match i with
      |0=>
       simp at hx hm;subst hx hm;exact⟨a.eval p.2,by rw[World.cell?_alloc_new];rfl,slAt_mem g3,fun e=>by rw[hst]at e;cases e⟩
      |i+1=>simp at hx
     ·have:j=0:=by omega
      subst this;exact⟨⟨a.eval p.2,by rw[World.cell?_alloc_new];rfl⟩,World.frozen?_alloc_new _ _ _ _⟩
    ·simp at hm;subst hm;cases hq;have:=hseg _ _ hs;have hlt:=hor2.lt this;omega)
  refine Does.val (w':=w.alloc (.cells #[a.eval p.2] d.el)) (u:= .slice (some ⟨w.heap.size,0,none⟩) 1 1) (α':=fun m=>if m=nm o 0 then .rows (some (w.heap.size,0)) 1 1 [memOf A2 full.length real2]else if m=l2 then .no else α m) (by simp [execOp,ho,e2]) ?_;rw[ups_take2 hne hg2];refine hi.dput hd (vr_c0 ⟨⟨?_,fun _=> ?_⟩,rfl⟩)
  ·simp [takeH]
  ·simp only[takeH,if_true];exact⟨Nat.le_refl _,some ⟨w.heap.size,0,none⟩,rfl,Nat.le_refl _,fun _=>⟨_,_,rfl,rfl⟩⟩
 ·exact(fail_ev hs).elim
theorem step_lent (ht:TdsOk cx E.P) (h:Inv E S α a w) (hd:dstOk E.n o) {t n:Nat} {ps:Array (Nat×Operand)} (ho:o.op= .buildSlice t n ps) {d e:Td} {k0:Kd} (hf:find t cx.td=some d) (hk:d.k= .sl k0) (hfe:find d.el cx.td=some e) {vs:List (Nat×AV)}
  (hv:Al (fun(v:Nat×AV) (p:Nat×Operand)=>v.1=p.1/\VR (R0 E S.heap α w) v.2 (a.eval p.2)) vs ps.toList) (hs:(sLent o e n vs).ev S=some us):Does E S a w o us:=by
 unfold sLent at hs;split at hs
 ·rename_i c;split at hs
  case isFalse=>exact(fail_ev hs).elim
  rename_i hn;obtain⟨hn,hsz1,hzs,hok⟩:=hn;subst hn;obtain⟨qs,h10,rfl⟩:=new_ev hs;rw[<-ret_ev h10];generalize hpl:ps.toList=pl at hv;cases hv with
  | @cons _ p _ pr hv1 hvr=>
  cases hvr;obtain⟨hi0,hv1⟩:=hv1;have hr:=vr_c0_inv hv1;have hal:Al (R0 E S.heap α w) [c] [a.eval p.2]:= .cons hr .nil;have hone:=okc h hal (by simp [okCells,hok]);have hone1:=hone (a.eval p.2) (by simp);have hcells:(a.eval p.2).cells=[a.eval p.2].toArray:=by
   generalize a.eval p.2=u at hone1;cases u<;>first|rfl|(simp [Value.oneCell']at hone1)
  obtain⟨cells,e1,e2⟩:=run_buildSlice (w:=w) (a:=a) ht (n:=1) (ps:=ps) hf hk hfe (by rw[hsz1];omega) hzs (uss:=[[a.eval p.2]]) rfl (by simp [hsz1]) (by
   rw[hpl];exact .cons ⟨hi0.symm,hcells⟩ .nil)
  have hcs:cells= #[a.eval p.2]:=by
   apply Array.ext';rw[e1];rfl
  subst hcs;have hi:=h.made (nm o 0) (.vars [c]) (.vars w.heap.size) #[a.eval p.2] d.el (w1:=w) rfl ⟨rfl,rfl,rfl⟩ rfl (fun b i hf=>by
    obtain⟨rfl,_⟩:=hf;exact Nat.le_refl _) (fun M' Mb' H' α' k1 k2 hgo=>by
   refine⟨[a.eval p.2],hal.mono (VR0.mono k1 k2 hgo),fun j u hj=>⟨?_,?_,hone u (List.mem_of_getElem? hj)⟩⟩
   ·rw[World.cell?_alloc_new];simpa using hj
   ·exact World.frozen?_alloc_new _ _ _ _)
  refine Does.val (w':=w.alloc (.cells #[a.eval p.2] d.el)) (u:= .slice (some ⟨w.heap.size,0,none⟩) 1 1) (α':=fun m=>if m=nm o 0 then .vars w.heap.size else α m) (by simp [execOp,ho,e2]) ?_;rw[ups_cons];refine hi.dput hd (vr_c0 ⟨⟨?_,fun _=> ?_⟩,rfl⟩)
  ·rw[up_set_heap];exact Nat.le_refl _
  ·rw[up_set_heap];simp only[if_true];exact⟨1,rfl,Nat.le_refl _,Nat.one_pos⟩
 ·exact(fail_ev hs).elim
theorem step_buildSlice (ht:TdsOk cx E.P) (h:Inv E S α a w) (hd:dstOk E.n o) {t n:Nat} {ps:Array (Nat×Operand)} (ho:o.op= .buildSlice t n ps)
  (hs:(elOf cx t fun e=>(parts ps.toList).bind fun vs=>if rwAt cx o=true then sRows1 o e n vs else if lnAt cx o=true then sLent o e n vs else if vs.length=n/\n*e.k.sz<=16777216/\e.k.zero.isSome=true then
   (packs e.k vs 0).bind fun p=>(freezes p.fr).bind fun fs=>
    (new o 0 (.arr true false e.k p.x) fun g=> .ret (dput o (.one false [.ref (nm o 0) g none]))).bind fun us=> .ret (fs++us)else .fail).ev S=some us):Does E S a w o us:=by
 obtain⟨d,k0,e,hf,hk,hfe,h1⟩:=elOf_ev hs;obtain⟨vs,h2,h3⟩:=bind_ev h1;split at h3
 ·exact step_rows1 ht h hd ho hf hk hfe (parts_sound h h2) h3
 split at h3
 ·exact step_lent ht h hd ho hf hk hfe (parts_sound h h2) h3
 split at h3
 case isFalse=>exact(fail_ev h3).elim
 rename_i hc;obtain⟨c1,c2,c3⟩:=hc;obtain⟨p,h4,h5⟩:=bind_ev h3;obtain⟨fs,h6,h7⟩:=bind_ev h5;obtain⟨ns,h8,h9⟩:=bind_ev h7;obtain⟨qs,h10,rfl⟩:=new_ev h8;rw[<-ret_ev h10]at h9;rw[<-ret_ev h9];clear hs h1 h3 h5 h7 h8 h9 h10;obtain⟨uss,s1,s2,s3,s4,s5⟩:=packs_sound h e.k 0 (parts_sound h h2) h4;have hul:∀us∈uss,us.length=e.k.sz:=fun us hu=>(s2 us hu).1
 obtain⟨cells,e1,e2⟩:=run_buildSlice (w:=w) (a:=a) ht (n:=n) (ps:=ps) hf hk hfe c2 c3 (by rw[s1,c1]) hul s3;have hI:=frz_inv h s5;have hav:=frz_avoid h s5 E.M0 (fun _ _ h=>h);have hal:=s4 _ hav.1 hav.2;have hxl:p.x.length=n:=by rw[hal.length,s1,c1]
 have hS:S.ups fs= {S with heap:=frz p.fr S.heap} :=by
  rw[freezes_ups h6];rfl
 have hgen:(frz p.fr S.heap (nm o 0)).1=(S.heap (nm o 0)).1:=by
  unfold frz;split
  ·exact(frz1_shape (c:= .no)).1
  ·rfl
 have hcs:cells.size=n*e.k.sz:=by
  rw[<-Array.length_toList,e1,flatten_length e.k.sz uss hul,s1,c1]
 have:=does_arr (E:=E) (S:= {S with heap:=frz p.fr S.heap}) (α:=α) (a:=a) (w:=w) (o:=o) hI hd (w1:=w) rfl ⟨rfl,rfl,rfl⟩ (t:=d.el) (n:=n) (cap:=n) (k:=e.k) (xs:=p.x) (cs:=cells) (vw:=none)
  (fun i x hi=>by
   obtain⟨us,u1,u2⟩:=hal.get hi;refine⟨us,u2,fun j v hj=> ?_⟩;rw[<-Array.getElem?_toList,e1,flatten_get e.k.sz uss i j us hul u1 (by rw[<-u2.len];exact(List.getElem?_eq_some_iff.1 hj).1)];exact hj)
  (by omega) hcs rfl (by simp [vlen,hxl]) (by simp [vlen]) (by simp [execOp,ho,e2])
 simp only[hgen]at this;intro next Q hn;refine this next Q (fun α' a' w' hi=>hn α' a' w' ?_);rw[ups_append,hS];exact hi
end
end Go.Cm
