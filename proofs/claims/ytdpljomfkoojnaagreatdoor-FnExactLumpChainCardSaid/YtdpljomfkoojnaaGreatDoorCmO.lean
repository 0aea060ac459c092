import Derived.Test.YtdpljomfkoojnaaGreatDoorCmN
import Derived.IntWalk
set_option linter.unusedVariables false
namespace Go.Cm
section
variable {cx:Cx} {E:En} {S:St} {α:Nat->CO} {a:Act} {w:World} {o:Oper} {us:List Up}
theorem new_ev {j:Nat} {ob:AO} {k:Nat->Cm (List Up)} (h:(new o j ob k).ev S=some us):
  ∃vs,(k ((S.heap (nm o j)).1+1)).ev S=some vs/\us= .set (nm o j) ((S.heap (nm o j)).1+1) ob::vs:=by
 simp only[new,Cm.ev]at h;obtain⟨vs,h1,h2⟩:=bind_ev h;exact⟨vs,h1,(ret_ev h2).symm⟩
theorem ups_cons (S:St) (u:Up) (us:List Up):S.ups (u::us)=(S.up u).ups us:=rfl
theorem up_set_heap (S:St) (l g:Nat) (ob:AO):(S.up (.set l g ob)).heap l=(g,ob):=by simp [St.up,beq_iff]
theorem does_vars (h:Inv E S α a w) (hd:dstOk E.n o) {t:Nat} {cs:List A0} {vs:List Value} (hv:Al (R0 E S.heap α w) cs vs) (hone:∀u∈vs,u.oneCell'=true)
  (hr:(execOp a.eval o).run E.P w= .ok (.value (.pointer (some ⟨w.heap.size,0,none⟩))) (w.alloc (.cells vs.toArray t))):
  Does E S a w o (.set (nm o 0) ((S.heap (nm o 0)).1+1) (.vars cs)::dput o (.one false [.pv (nm o 0) ((S.heap (nm o 0)).1+1) 0])):=by
 have hi:=h.made (nm o 0) (.vars cs) (.vars w.heap.size) vs.toArray t (w1:=w) rfl ⟨rfl,rfl,rfl⟩ rfl (fun b i hf=>by
   obtain⟨rfl,_⟩:=hf;exact Nat.le_refl _) (fun M' Mb' H' α' k1 k2 hgo=>by
  refine⟨vs,hv.mono (VR0.mono k1 k2 hgo),fun j u hj=>⟨?_,?_,hone u (List.mem_of_getElem? hj)⟩⟩
  ·rw[World.cell?_alloc_new];simpa using hj
  ·exact World.frozen?_alloc_new _ _ _ _)
 refine Does.val (α':=fun m=>if m=nm o 0 then .vars w.heap.size else α m) hr ?_;rw[ups_cons];refine hi.dput hd (vr_c0 ⟨⟨?_,fun _=> ?_⟩,rfl⟩)
 ·rw[up_set_heap];exact Nat.le_refl _
 ·rw[up_set_heap];simp only[if_true];rfl
theorem step_alloc (ht:TdsOk cx E.P) (h:Inv E S α a w) (hd:dstOk E.n o) {t:Nat} (ho:o.op= .alloc t)
  (hs:(tdOf cx t fun d=>(match d.k.zero with
   |some cs=>new o 0 (.vars (cs.map .v)) fun g=> .ret (dput o (.one false [.pv (nm o 0) g 0]))
   |none=> .fail)).ev S=some us):Does E S a w o us:=by
 obtain⟨d,hf,h1⟩:=tdOf_ev hs;split at h1
 ·rename_i cs hz;obtain⟨vs,h2,rfl⟩:=new_ev h1;rw[<-ret_ev h2];obtain⟨i,i1,i2,i3,i4⟩:=(ht t d hf).info;obtain⟨z,z1,z2⟩:=i4 cs hz;have hv:Al (R0 E S.heap α w) (cs.map .v) cs:=by
   have:∀l:List Value,Al (R0 E S.heap α w) (l.map .v) l:=by
    intro l
    induction l with
    |nil=>exact .nil
    |cons x l ih=>exact .cons rfl ih
   exact this cs
  refine does_vars h hd (t:=t) hv (RdC.one (RdC.zero (w:=w) (M:=fun _ _=>False) hz)) ?_;simp [execOp,ho,Instr.alloc,zeroValue,typeInfo,i1,z1,newVar,newRow,z2]
 ·exact(fail_ev h1).elim
theorem step_box (ht:TdsOk cx E.P) (h:Inv E S α a w) (hd:dstOk E.n o) {t:Nat} {x:Operand} (ho:o.op= .box t x)
  (hs:((opnd x).bind fun vx=>tdOf cx t fun d=>if(cellsOf vx).length=d.k.sz/\okCells (cellsOf vx)=true then
   new o 0 (.vars (cellsOf vx)) fun g=> .ret (dput o (.one false [.pv (nm o 0) g 0]))else .fail).ev S=some us):Does E S a w o us:=by
 obtain⟨vx,h1,h2⟩:=bind_ev hs;obtain⟨d,hf,h3⟩:=tdOf_ev h2;split at h3
 case isFalse=>exact(fail_ev h3).elim
 rename_i hc;obtain⟨hl,hok⟩:=hc;obtain⟨vs,h4,rfl⟩:=new_ev h3;rw[<-ret_ev h4];have hpos:=Kd.sz_pos d.k;obtain⟨ag,ws,hv1,hv2,hv3,hv4⟩:=cellsOf_al (opnd_sound h h1) (by omega);have hone:=okc h hv3 hok;refine does_vars h hd (t:=t) hv3 hone ?_;have hcs:(a.eval x).cells=ws.toArray:=by
  rw[hv2];cases ag with
  |true=>rfl
  |false=>
   match ws,hv4 rfl with
   | [u],_=>
    have:=hone u (by simp);cases u<;>first|rfl|(simp [Value.oneCell']at this)
 simp [execOp,ho,Instr.box,newVar,newRow,hcs]
theorem does_arr (h:Inv E S α a w) (hd:dstOk E.n o) {w1:World} (hw1:w1.heap=w.heap) (hw2:w1.os=w.os/\w1.tape=w.tape/\w1.output=w.output) {t n cap:Nat} {k:Kd} {xs:List k.Ty} {cs:Array Value} {vw:Option (Nat×Nat)}
  (hx:∀(i:Nat) (x:k.Ty),xs[i]? =some x->∃es,RdC w (MM E.M0 S.heap α) k es x/\∀(j:Nat) (v:Value),es[j]? =some v->cs[i*k.sz+j]? =some v)
  (hl:xs.length<=cap) (hsz:cs.size=cap*k.sz) (hvw:voff vw=0) (hn:n=vlen xs vw) (hvl:vlen xs vw<=xs.length)
  (hr:(execOp a.eval o).run E.P w= .ok (.value (.slice (some ⟨w.heap.size,0,none⟩) n cap)) (w1.alloc (.cells cs t))):
  Does E S a w o (.set (nm o 0) ((S.heap (nm o 0)).1+1) (.arr true false k xs)::dput o (.one false [.ref (nm o 0) ((S.heap (nm o 0)).1+1) vw])):=by
 have hcell:∀i,(w1.alloc (.cells cs t)).cell? ⟨w.heap.size,i,none⟩=cs[i]? :=fun i=>by rw[<-hw1];exact World.cell?_alloc_new _ _ _ _
 have hfro:∀i,(w1.alloc (.cells cs t)).frozen? ⟨w.heap.size,i,none⟩=false:=fun i=>by rw[<-hw1];exact World.frozen?_alloc_new _ _ _ _
 have hi:=h.made (nm o 0) (.arr true false k xs) (.arr (some (w.heap.size,0)) cap cap) cs t hw1 hw2 rfl (fun b i hf=>by
   obtain⟨rfl,_⟩:=hf;exact Nat.le_refl _) (fun M' Mb' H' α' k1 k2 hgo=>by
  refine⟨⟨hl,fun h=>by cases h⟩,Nat.le_refl _,fun _=>rfl,(by simp),fun b oo hA=> ?_⟩;cases hA;refine⟨fun i x hi=> ?_,fun _ j hj=>⟨⟨cs[j]'(by omega),?_⟩,?_⟩⟩
  ·obtain⟨es,e1,e2⟩:=hx i x hi;refine⟨es,e1.mono k1,fun j v hj=> ?_,(fun hz=>by cases hz)⟩;rw[hcell,Nat.zero_add];exact e2 j v hj
  ·rw[hcell,Nat.zero_add];exact Array.getElem?_eq_getElem _
  ·exact hfro _)
 refine Does.val (α':=fun m=>if m=nm o 0 then .arr (some (w.heap.size,0)) cap cap else α m) hr ?_;rw[ups_cons];refine hi.dput hd (vr_c0 ⟨⟨?_,fun _=> ?_⟩,rfl⟩)
 ·rw[up_set_heap];exact Nat.le_refl _
 ·rw[up_set_heap];simp only[if_true];refine⟨by omega,some ⟨w.heap.size,0,none⟩,by rw[hn,hvw];rfl,by rw[hvw];omega,fun _=>⟨_,_,rfl,by rw[hvw];simp⟩⟩
theorem kAt_zero (cx:Cx) (o:Oper) (k:Kd):(kAt cx o k).zero=k.zero/\(kAt cx o k).sz=k.sz:=by
 unfold kAt;split
 ·cases k<;>exact⟨rfl,rfl⟩
 ·exact⟨rfl,rfl⟩
theorem hd0_get {β:Type} (m:List (List β×Nat)) {i:Nat} {p:Nat×Nat} (h:(hd0 m)[i]? =some p):∃x,m[i]? =some x/\p=(i,x.2):=by
 simp only[hd0,List.getElem?_mapIdx,Option.map_eq_some_iff]at h;obtain⟨x,h1,h2⟩:=h;exact⟨x,h1,h2.symm⟩
theorem hd0_length {β:Type} (m:List (List β×Nat)):(hd0 m).length=m.length:=by simp [hd0]
theorem in0_length {β:Type} (m:List (List β×Nat)):(in0 m).length=m.length:=by simp [in0]
theorem in0_get {β:Type} (m:List (List β×Nat)) (i:Nat):(in0 m)[i]? =m[i]?.map fun x=>x.1:=by simp [in0]
theorem nil_mems {w:World} {M:Nat->Nat->Prop} {k:Kd} (c:Nat):Mems w M k (in0 (List.replicate c (([]:List k.Ty),0))) (List.replicate c (none,0,0)):=by
 refine⟨by simp [in0],fun j xs m hx hm=> ?_,fun j j' m m' b o _ hm _ hs _=> ?_⟩
 ·rw[in0_get,List.getElem?_replicate]at hx;rw[List.getElem?_replicate]at hm;split at hm
  ·rename_i hj;rw[if_pos hj]at hx;simp at hx hm;subst hx hm;exact⟨rfl,Nat.le_refl _,by simp,fun b o h=>by cases h⟩
  ·cases hm
 ·rw[List.getElem?_replicate]at hm;split at hm
  ·simp at hm;subst hm;obtain⟨oo,h1,_⟩:=hs;cases h1
  ·cases hm
theorem does_rows0 (h:Inv E S α a w) (hd:dstOk E.n o) {w1:World} (hw1:w1.heap=w.heap) (hw2:w1.os=w.os/\w1.tape=w.tape/\w1.output=w.output) {t n c:Nat} {k:Kd} {cs:Array Value} {vw:Option (Nat×Nat)}
  (hcs:cs.size=c) (hz:∀i,i<c->cs[i]? =some (.slice none 0 0)) (hvw:voff vw=0) (hn:n=vlen (hd0 (List.replicate c (([]:List k.Ty),0))) vw) (hnc:n<=c)
  (hr:(execOp a.eval o).run E.P w= .ok (.value (.slice (some ⟨w.heap.size,0,none⟩) n c)) (w1.alloc (.cells cs t))):
  Does E S a w o (.set (nm o 0) ((S.heap (nm o 0)).1+1) (ao0 true k (List.replicate c ([],0)))::dput o (.one false [.ref (nm o 0) ((S.heap (nm o 0)).1+1) vw])):=by
 have hcell:∀i,(w1.alloc (.cells cs t)).cell? ⟨w.heap.size,i,none⟩=cs[i]? :=fun i=>by rw[<-hw1];exact World.cell?_alloc_new _ _ _ _
 have hfro:∀i,(w1.alloc (.cells cs t)).frozen? ⟨w.heap.size,i,none⟩=false:=fun i=>by rw[<-hw1];exact World.frozen?_alloc_new _ _ _ _
 have hms:∀m∈List.replicate c ((none,0,0):Option (Nat×Nat)×Nat×Nat),m=(none,0,0):=fun m hm=>(List.mem_replicate.1 hm).2
 have hA:∀b o,(if c=0 then none else some (w.heap.size,0))=some (b,o)->c≠0/\b=w.heap.size/\o=0:=by
  intro b o hq;split at hq
  ·cases hq
  ·cases hq;exact⟨by assumption,rfl,rfl⟩
 have hi:=h.made (nm o 0) (ao0 true k (List.replicate c ([],0))) (.rows (if c=0 then none else some (w.heap.size,0)) c c (List.replicate c (none,0,0))) cs t hw1 hw2 rfl (fun b i hf=>by
   rcases hf with ⟨oo,hq,_⟩|⟨m,hm,oo,hs,_⟩
   ·rw[(hA b oo hq).2.1];exact Nat.le_refl _
   ·rw[hms m hm]at hs;cases hs) (fun M' Mb' H' α' k1 k2 hgo=>by
  have Ms:=nil_mems (w:=w1.alloc (.cells cs t)) (M:=M') (k:=k) c;refine⟨by simp [hd0],fun h=>(by cases h),Nat.le_refl _,fun _=>rfl,?_,Ms.ml,fun i p hp=> ?_,fun b oo hq=> ?_,Ms.mem,Ms.dj,fun m hm b o oo hs=> ?_⟩
  ·by_cases h0:c=0<;>simp [h0]
  ·obtain⟨x,hx,rfl⟩:=hd0_get _ hp;rw[List.getElem?_replicate]at hx;split at hx
   ·rename_i hic;cases hx;exact⟨(none,0,0),by simp [hic],Nat.le_refl _⟩
   ·cases hx
  ·obtain⟨h0,rfl,rfl⟩:=hA b oo hq;refine⟨fun i p m hp hm=> ?_,fun j hj=>⟨⟨cs[j]'(by omega),?_⟩,?_⟩⟩
   ·obtain⟨x,hx,rfl⟩:=hd0_get _ hp;rw[List.getElem?_replicate]at hx;split at hx
    ·rename_i hic;cases hx;rw[hms m (List.mem_of_getElem? hm)];exact⟨.slice none 0 0,by rw[hcell,Nat.zero_add];exact hz i hic,⟨none,rfl,Nat.le_refl _,fun hc=>by cases hc⟩,fun _ _=>rfl⟩
    ·cases hx
   ·rw[hcell,Nat.zero_add];exact Array.getElem?_eq_getElem _
   ·exact hfro _
  ·rw[hms m hm]at hs;obtain⟨oo,hs,_⟩:=hs;cases hs)
 refine Does.val (α':=fun m=>if m=nm o 0 then .rows (if c=0 then none else some (w.heap.size,0)) c c (List.replicate c (none,0,0))else α m) hr ?_;rw[ups_cons];refine hi.dput hd (vr_c0 ⟨⟨?_,fun _=> ?_⟩,rfl⟩)
 ·rw[up_set_heap];exact Nat.le_refl _
 ·rw[up_set_heap];simp only[if_true];refine⟨?_,some ⟨w.heap.size,0,none⟩,by rw[<-hn,hvw];rfl,by rw[hvw];omega,fun hc=>⟨w.heap.size,0,?_,by rw[hvw]⟩⟩
  ·show voff vw+vlen (hd0 _) vw<=(hd0 _).length;rw[hvw,<-hn,hd0_length];simp;exact hnc
  ·rw[if_neg (by omega)]
theorem run_makeSlice (ht:TdsOk cx E.P) {t:Nat} {on oc:Operand} (ho:o.op= .makeSlice t on oc) {d e:Td} {k0:Kd} (hf:find t cx.td=some d) (hk:d.k= .sl k0) (hfe:find d.el cx.td=some e) {n c:Int} (e1:a.eval on= .int .i64 n) (e2:a.eval oc= .int .i64 c)
  (hby:¬e.bytes=0) (b1:0<=n) (b2:n<=c) (b3:c*(e.bytes:Int)<=281474976710656) {zc:List Value} (hz:e.k.zero=some zc):
  (execOp a.eval o).run E.P w= .ok (.value (.slice (some ⟨w.heap.size,0,none⟩) n.toNat c.toNat)) (w.alloc (.cells ((Array.range (c.toNat*e.k.sz)).map (zc.toArray[·%zc.toArray.size]!)) d.el)):=by
 have hu:=(ht t d hf).und;rw[hk]at hu;obtain⟨i,i1,i2,i3,i4⟩:=(ht _ e hfe).info;obtain⟨z,z1,z2⟩:=i4 zc hz;have hc0:0<=c:=by omega
 have hcb:c<=281474976710656:=by
  have:c*1<=c*(e.bytes:Int):=Int.mul_le_mul_of_nonneg_left (by omega) hc0;omega
 have hw:∀x:Int,0<=x->x<=281474976710656->IntKind.i64.wrap x=x:=by
  intro x h0 h1;exact IntWalk.i64_in _ (by omega)
 have g1:¬(c<0):=by omega
 have g2:¬(281474976710656<(e.bytes:Int)*c):=by rw[Int.mul_comm];omega
 have g3:¬(n<0):=by omega
 have g4:¬(c<n):=by omega
 simp only[execOp,ho,e1,e2,Instr.makeSlice,Sem.run_bind,run_underlying hu,Result.andThen_ok,asInt,asIntOf,typeInfo,run_program,i1,Sem.run_pure,i3,hw c hc0 hcb,hw n b1 (by omega)]
 by_cases h0:c.toNat*e.k.sz=0
 ·simp [g1,g2,g3,g4,sizeOf,typeInfo,i1,i2,newRow,h0];rw[show Array.range 0= #[]from rfl];simp only[Array.map_empty]
 ·simp [g1,g2,g3,g4,sizeOf,typeInfo,i1,i2,newRow,h0,zeroValue,z1,z2]
theorem zero_get {zc:List Value} {sz c:Nat} (hzl:zc.length=sz):∀i j,j<sz->i<c->((Array.range (c*sz)).map (zc.toArray[·%zc.toArray.size]!))[i*sz+j]? =zc[j]? :=by
 intro i j hj hi;have hlt:i*sz+j<c*sz:=by
  have:(i+1)*sz<=c*sz:=Nat.mul_le_mul_right _ (by omega);rw[Nat.add_mul,Nat.one_mul]at this;omega
 have hmod:(i*sz+j)%sz=j:=by
  rw[Nat.add_comm,Nat.add_mul_mod_self_right];exact Nat.mod_eq_of_lt hj
 rw[Array.getElem?_map,Array.getElem?_eq_getElem (by simpa using hlt)];simp [hzl,hmod,hj]
theorem sameOp_eq {on oc:Operand} (hso:sameOp on oc=true):on=oc:=by
 cases on<;>cases oc<;>simp [sameOp]at hso
 exact congrArg _ hso
theorem step_makeSlice (ht:TdsOk cx E.P) (h:Inv E S α a w) (hd:dstOk E.n o) {t:Nat} {on oc:Operand} (ho:o.op= .makeSlice t on oc)
  (hs:((opnd on).bind fun vn=>(opnd oc).bind fun vc=>sgi vn fun n=>sgi vc fun c=>elOf cx t fun e=>if e.bytes=0 then .fail else
   .test (decide (0<=n)) (.test (decide (n<=c)) (.test (decide (c*(e.bytes:Int)<=281474976710656)) (if rwAt cx o=true then(match e.k with
    | .sl k=>new o 0 (ao0 true (kRw cx o k) (List.replicate c.toNat ([],0))) fun g=> .ret (dput o (.one false [.ref (nm o 0) g (if sameOp on oc then none else some (0,n.toNat))]))
    |_=> .fail)else match e.k.zero with
    |some _=>new o 0 (.arr true false (kAt cx o e.k) (List.replicate c.toNat (kAt cx o e.k).dflt)) fun g=> .ret (dput o (.one false [.ref (nm o 0) g (if sameOp on oc then none else some (0,n.toNat))]))
    |none=> .fail) .fail) .fail) .fail).ev S=some us):Does E S a w o us:=by
 obtain⟨vn,h1,h2⟩:=bind_ev hs;obtain⟨vc,h3,h4⟩:=bind_ev h2;obtain⟨n,rfl,h5⟩:=sgi_ev h4;obtain⟨c,rfl,h6⟩:=sgi_ev h5;obtain⟨d,k0,e,hf,hk,hfe,h7⟩:=elOf_ev h6;split at h7
 ·exact(fail_ev h7).elim
 rename_i hby;obtain⟨b1,h8⟩:=need_ev h7;obtain⟨b2,h9⟩:=need_ev h8;obtain⟨b3,h10⟩:=need_ev h9;have e1:=opnd_v h h1;have e2:=opnd_v h h3;clear hs h2 h4 h5 h6 h7 h8 h9;split at h10
 ·cases hek:e.k<;>rw[hek]at h10<;>try exact(fail_ev h10).elim
  rename_i k;obtain⟨vs,h11,rfl⟩:=new_ev h10;rw[<-ret_ev h11];have hrun:=run_makeSlice (w:=w) ht ho hf hk hfe e1 e2 hby b1 b2 b3 (zc:=[.slice none 0 0]) (by rw[hek];rfl);have hsz1:e.k.sz=1:=by rw[hek];rfl
  refine does_rows0 (n:=n.toNat) (c:=c.toNat) h hd (w1:=w) rfl ⟨rfl,rfl,rfl⟩ (by simp [hsz1]) (fun i hi=> ?_) ?_ ?_ (by omega) hrun
  ·have:=zero_get (zc:=[.slice none 0 0]) (sz:=e.k.sz) (c:=c.toNat) (by rw[hsz1];rfl) i 0 (by rw[hsz1];exact Nat.one_pos) hi;rw[hsz1]at this ⊢;simpa using this
  ·split<;>rfl
  ·split
   ·rename_i hso;have:=sameOp_eq hso;subst this;rw[e1]at e2;cases e2;simp [vlen,hd0]
   ·rfl
 ·split at h10
  case h_2=>exact(fail_ev h10).elim
  rename_i zc hz;obtain⟨vs,h11,rfl⟩:=new_ev h10;rw[<-ret_ev h11];clear h10 h11;have hrun:=run_makeSlice (w:=w) ht ho hf hk hfe e1 e2 hby b1 b2 b3 hz;obtain⟨hk2z,hk2s⟩:=kAt_zero cx o e.k;generalize kAt cx o e.k=k2 at hk2z hk2s;rw[hz]at hk2z;have hzr:=RdC.zero (w:=w) (M:=MM E.M0 S.heap α) hk2z;have hzl:=hzr.len;rw[hk2s]at hzl;refine does_arr (n:=n.toNat) (cap:=c.toNat) h hd (w1:=w) rfl ⟨rfl,rfl,rfl⟩ (fun i x hi=> ?_) (by simp) (by simp [hk2s]) ?_ ?_ ?_ hrun
  ·rw[List.getElem?_replicate]at hi;split at hi
   ·rename_i hlt;cases hi;refine⟨zc,hzr,fun j v hj=> ?_⟩;rw[hk2s];rw[zero_get hzl i j (by rw[<-hzl];exact(List.getElem?_eq_some_iff.1 hj).1) hlt];exact hj
   ·cases hi
  ·split<;>rfl
  ·split
   ·rename_i hso;have:=sameOp_eq hso;subst this;rw[e1]at e2;cases e2;simp [vlen]
   ·rfl
  ·split
   ·exact Nat.le_refl _
   ·simp [vlen];omega
end
end Go.Cm
