import Derived.Test.YtdpljomfkoojnaaGreatDoorCmQ
import Derived.Laws.AppendOwn
import Derived.Laws.BytesString
set_option linter.unusedVariables false
namespace Go.Cm
theorem collect {w:World} {M:Nat->Nat->Prop} {k:Kd} {b:Nat} :∀(ys:List k.Ty) (o:Nat),(∀(i:Nat) (y:k.Ty),ys[i]? =some y->∃es,RdC w M k es y/\Cells0 w b (o+i*k.sz) es)->
  ∃uss:List (List Value),Al (fun y es=>RdC w M k es y) ys uss/\∀j v,uss.flatten[j]? =some v->w.cell? ⟨b,o+j,none⟩=some v
 | [],o,_=>⟨[], .nil,by simp⟩
 |y::ys,o,h=>by
  obtain⟨es,h1,h2⟩:=h 0 y rfl;obtain⟨uss,h3,h4⟩:=collect ys (o+k.sz) (fun i z hz=>by
   obtain⟨es,e1,e2⟩:=h (i+1) z (by simpa using hz);refine⟨es,e1,?_⟩;rw[Nat.add_mul,Nat.one_mul]at e2;rwa [show o+(i*k.sz+k.sz)=o+k.sz+i*k.sz by omega]at e2)
  refine⟨es::uss, .cons h1 h3,fun j v hj=> ?_⟩;rw[List.flatten_cons,List.getElem?_append]at hj;split at hj
  ·have:=h2 j v hj;simpa using this
  ·rename_i hl;have:=h4 _ v hj;have hes:=h1.len;rwa [show o+k.sz+(j - es.length)=o+j by omega]at this
theorem al_len {k:Kd} {w:World} {M:Nat->Nat->Prop} {ys:List k.Ty} {uss:List (List Value)} (h:Al (fun y es=>RdC w M k es y) ys uss):∀us∈uss,us.length=k.sz:=by
 induction h with
 |nil=>simp
 |cons h _ ih=>
  intro us hu;rcases List.mem_cons.1 hu with rfl|hu
  ·exact h.len
  ·exact ih us hu
theorem al_one {k:Kd} {w:World} {M:Nat->Nat->Prop} {ys:List k.Ty} {uss:List (List Value)} (h:Al (fun y es=>RdC w M k es y) ys uss):∀v∈uss.flatten,v.oneCell'=true:=by
 induction h with
 |nil=>simp
 |cons h _ ih=>
  intro v hv;rw[List.flatten_cons]at hv;rcases List.mem_append.1 hv with h1|h1
  ·exact h.one v h1
  ·exact ih v h1
section
variable {cx:Cx} {E:En} {S:St} {α:Nat->CO} {a:Act} {w:World} {o:Oper} {us:List Up}
def Src (E:En) (S:St) (α:Nat->CO) (w:World) (k:Kd) (ys:List k.Ty) (u:Value):Prop:=
 ∃A c uss,u= .slice A ys.length c/\Al (fun y es=>RdC w (MM E.M0 S.heap α) k es y) ys uss/\
  (ys.length≠0->∃b oo,A=some ⟨b,oo,none⟩/\∀j v,uss.flatten[j]? =some v->w.cell? ⟨b,oo+j,none⟩=some v)
theorem src_ref (h:Inv E S α a w) {l g:Nat} {vw:Option (Nat×Nat)} {u:Value} (hr:R0 E S.heap α w (.ref l g vw) u) (hg:(S.heap l).1=g) {mine fz:Bool} {k:Kd} {full:List k.Ty} (ho:(S.heap l).2= .arr mine fz k full):
  Src E S α w k (look full vw) u:=by
 have hr':=hr.1.2 hg;have hor:=h.obj l;obtain⟨A,cap,real,hα⟩:=arr_co h ho;rw[ho,hα]at hr' hor;obtain⟨h1,A',rfl,h2,h3⟩:=hr';obtain⟨c1,c2,c3,c4,c5⟩:=hor;have hlen:=look_length full vw h1
 by_cases h0:vlen full vw=0
 ·have:look full vw=[]:=List.eq_nil_of_length_eq_zero (by rw[hlen,h0]);rw[this];exact⟨A',_,[],by rw[h0];rfl, .nil,fun h=>absurd rfl h⟩
 ·obtain⟨b,oo,hA,hA'⟩:=h3 (by omega);obtain⟨uss,u1,u2⟩:=collect (w:=w) (M:=MM E.M0 S.heap α) (b:=b) (look full vw) (oo+voff vw*k.sz) (fun i y hy=>by
   obtain⟨hx1,hx2⟩:=look_get full vw hy;obtain⟨es,e1,e2,_⟩:=(c5 b oo hA).1 _ y hx1;refine⟨es,e1,?_⟩;rwa [Nat.add_mul,<-Nat.add_assoc]at e2)
  exact⟨A',_,uss,by rw[hlen],u1,fun _=>⟨b,_,hA',u2⟩⟩
theorem tail_ev (h:Inv E S α a w) {k:Kd} {x:A0} {u:Value} (hx:R0 E S.heap α w x u) {κ:List k.Ty->Cm (List Up)} {r:List Up} (hs:(tail k x κ).ev S=some r):
  ∃ys,(κ ys).ev S=some r/\Src E S α w k ys u:=by
 unfold tail at hs;cases x<;>try exact(fail_ev hs).elim
 case v y=>
  cases y<;>try exact(fail_ev hs).elim
  rename_i A n c;cases A<;>try exact(fail_ev hs).elim
  cases n<;>try exact(fail_ev hs).elim
  cases c<;>try exact(fail_ev hs).elim
  refine⟨[],hs,none,0,[],hx, .nil,fun h=>absurd rfl h⟩
 case sl fl k' ys=>
  dsimp only at hs;split at hs
  case isFalse=>exact(fail_ev hs).elim
  rename_i hk;subst hk;split at hs
  case isFalse=>exact(fail_ev hs).elim
  rename_i hfl;refine⟨ys,hs,?_⟩;obtain⟨A,c,q1,q2,q3⟩:=hx;simp at q1;have hread:∀(es:List Value) (y:k'.Ty),RdC w (if fl=true then MM E.W0 S.heap α else MM E.M0 S.heap α) k' es y->RdC w (MM E.M0 S.heap α) k' es y:=by
   intro es y hq;cases fl with
   |false=>exact hq
   |true=>exact hq.flat (by simpa using hfl)
  by_cases h0:ys.length=0
  ·have:ys=[]:=List.eq_nil_of_length_eq_zero h0;subst this;exact⟨A,c,[],q1, .nil,fun h=>absurd rfl h⟩
  ·obtain⟨b,oo,hA,q4⟩:=q3 h0;obtain⟨uss,u1,u2⟩:=collect (w:=w) (M:=MM E.M0 S.heap α) (b:=b) ys oo (fun i y hy=>by
    obtain⟨es,e1,e2⟩:=q4 i y hy;exact⟨es,hread es y e1,fun j v hj=>(e2 j v hj).1⟩)
   exact⟨A,c,uss,q1,u1,fun _=>⟨b,oo,hA,u2⟩⟩
 case sv fl k' ys n=>
  dsimp only at hs;split at hs
  case isFalse=>exact(fail_ev hs).elim
  rename_i hk;subst hk;split at hs
  case isFalse=>exact(fail_ev hs).elim
  rename_i hfl;refine⟨ys.take n,hs,?_⟩;obtain⟨A,c,q1,q2,q3⟩:=sv_sl (w:=w) hx;simp at q1;have hread:∀(es:List Value) (y:k'.Ty),RdC w (if fl=true then MM E.W0 S.heap α else MM E.M0 S.heap α) k' es y->RdC w (MM E.M0 S.heap α) k' es y:=by
   intro es y hq;cases fl with
   |false=>exact hq
   |true=>exact hq.flat (by simpa using hfl)
  by_cases h0:(ys.take n).length=0
  ·have h00:ys.take n=[]:=List.eq_nil_of_length_eq_zero h0;rw[h00];exact⟨A,c,[],by rw[q1];simp at h0 ⊢;omega, .nil,fun h=>absurd rfl h⟩
  ·obtain⟨b,oo,hA,q4⟩:=q3 h0;obtain⟨uss,u1,u2⟩:=collect (w:=w) (M:=MM E.M0 S.heap α) (b:=b) (ys.take n) oo (fun i y hy=>by
    obtain⟨es,e1,e2⟩:=q4 i y hy;exact⟨es,hread es y e1,fun j v hj=>(e2 j v hj).1⟩)
   exact⟨A,c,uss,by rw[q1];simp,u1,fun _=>⟨b,oo,hA,u2⟩⟩
 case ref l g vw=>
  simp only[Cm.ev]at hs;split at hs
  case isFalse=>exact(fail_ev hs).elim
  rename_i hg;split at hs
  case h_2=>exact(fail_ev hs).elim
  rename_i m fz k' full hob;split at hs
  case isFalse=>exact(fail_ev hs).elim
  rename_i hk;subst hk;exact⟨look full vw,hs,src_ref h hx hg hob⟩
end
theorem strOf_spec {w:World} {M:Nat->Nat->Prop} :∀ {ys:List Int} {uss:List (List Value)},Al (fun(y:Int) es=>RdC w M (.int .u8) es y) ys uss->uss.flatten=ys.map fun n=> .int .u8 n:=by
 intro ys uss h
 induction h with
 |nil=>rfl
 |cons h _ ih=>rw[List.flatten_cons,ih,show _=_ from h];rfl
theorem foldl_push:∀(ys:List Int) (s:ByteArray),ys.foldl (fun r n=>r.push (UInt8.ofNat n.toNat)) s=⟨s.data++(ys.map fun n=>UInt8.ofNat n.toNat).toArray⟩
 | [],s=>by simp
 |y::ys,s=>by
  rw[List.foldl_cons,foldl_push ys];simp [ByteArray.push]
theorem run_bytesStr {P:Program} {w:World} {A:Option Addr} {c:Nat} (ys:List Int) (hA:ys.length≠0->∃b o,A=some ⟨b,o,none⟩/\∀j v,(ys.map (Value.int .u8))[j]? =some v->w.cell? ⟨b,o+j,none⟩=some v):
  (Conv.bytesToString (.slice A ys.length c)).run P w= .ok (.string (strOf ys)) w:=by
 by_cases h0:ys.length=0
 ·have:ys=[]:=List.eq_nil_of_length_eq_zero h0;subst this;cases A with
  |none=>simp [Conv.bytesToString,strOf];rfl
  |some ad=>
   rw[List.length_nil,run_bytesToString w ad 0 c [] (by simp [loadCells,loadCellsFrom])];rfl
 ·obtain⟨b,o,rfl,h1⟩:=hA h0;have hl:=run_loadCells_list (P:=P) w ⟨b,o,none⟩ (ys.map (Value.int .u8)) (fun j v hj=>by rw[add_plain];exact h1 j v hj);rw[List.length_map]at hl;rw[run_bytesToString w _ _ c ys hl,foldl_push];simp [strOf,ByteArray.empty,ByteArray.emptyWithCapacity];rfl
section
variable {cx:Cx} {E:En} {S:St} {α:Nat->CO} {a:Act} {w:World} {o:Oper} {us:List Up}
theorem step_convert (ht:TdsOk cx E.P) (h:Inv E S α a w) (hd:dstOk E.n o) {s t:Nat} {x:Operand} (ho:o.op= .convert s t x)
  (hs:((opnd x).bind fun vx=>sg vx fun a=>sConv cx o s t a).ev S=some us):Does E S a w o us:=by
 obtain⟨vx,h1,h2⟩:=bind_ev hs;obtain⟨c,rfl,h3⟩:=sg_ev h2;unfold sConv at h3;obtain⟨ds,hfs,h3'⟩:=tdOf_ev h3;obtain⟨dt,hf,h4⟩:=tdOf_ev h3';clear h3 h3' h2 hs;have hu:=(ht t dt hf).und;have hus:=(ht s ds hfs).und;have hus':∃u,E.P.underlying s=some u:=by
  cases hk:ds.k<;>rw[hk]at hus
  case pair=>exact hus.elim
  case sv=>exact hus.elim
  case pt=>obtain⟨e,he⟩:=hus;exact⟨_,he⟩
  case er=>obtain⟨e,he⟩:=hus;exact⟨_,he⟩
  case st=>obtain⟨e,he,_⟩:=hus;exact⟨_,he⟩
  all_goals exact⟨_,hus⟩
 obtain⟨usrc,hsrc⟩:=hus';cases hk:dt.k<;>rw[hk]at hu h4
 case int k=>
  cases c<;>try exact(fail_ev h4).elim
  rename_i y;cases y<;>try exact(fail_ev h4).elim
  rename_i ik n;rw[<-ret_ev h4];have e1:=opnd_v h h1;refine Does.pure h hd (u:= .int k (k.wrap n)) ?_ (vr_vl rfl);simp [execOp,ho,e1,Go.convert,run_underlying hu,run_underlying hsrc,Conv.intToInt]
 case str=>
  by_cases hstr:∃s',c= .v (.string s')
  ·obtain⟨s',rfl⟩:=hstr;have h4':(Cm.ret (dput o (vl (.string s')))).ev S=some us:=by
    cases hkk:ds.k<;>rw[hkk]at h4<;>exact h4
   rw[<-ret_ev h4'];have e1:=opnd_v h h1;refine Does.pure h hd (u:= .string s') ?_ (vr_vl rfl);simp [execOp,ho,e1,Go.convert,run_underlying hu,run_underlying hsrc]
  have hk2:ds.k= .sl (.int .u8)/\(elOf cx s fun e=>if e.k= .int .u8 then tail (.int .u8) c fun ys=> .ret (dput o (vl (.string (strOf ys))))else .fail).ev S=some us:=by
   split at h4
   ·exact absurd ‹Kd.str=Kd.int _› (by simp)
   ·exact absurd ⟨_,rfl⟩ hstr
   ·exact⟨by assumption,h4⟩
   ·exact(fail_ev h4).elim
  obtain⟨hk2,h4⟩:=hk2;rw[hk2]at hus;obtain⟨d',k',e,q1,q2,q3,h5⟩:=elOf_ev h4;rw[hfs]at q1;cases q1;split at h5
  case isFalse=>exact(fail_ev h5).elim
  rename_i hek;have hue:=(ht _ e q3).und;rw[hek]at hue;obtain⟨ys,h6,A,cc,uss,r1,r2,r3⟩:=tail_ev h (opnd_c h h1) h5;rw[<-ret_ev h6];refine Does.pure h hd (u:= .string (strOf ys)) ?_ (vr_vl rfl);have hfl:=strOf_spec r2;have hrun:=run_bytesStr (P:=E.P) (w:=w) (A:=A) (c:=cc) ys (fun hn=>by
   obtain⟨b,oo,h7,h8⟩:=r3 hn;exact⟨b,oo,h7,fun j v hj=>h8 j v (by rw[hfl];exact hj)⟩)
  have hcv:(Go.convert s t (.slice A ys.length cc)).run E.P w= .ok (.string (strOf ys)) w:=by
   rw[<-hrun];simp [Go.convert,run_underlying hu,run_underlying hus,run_underlying hue]
  simp [execOp,ho,r1,hcv]
 all_goals exact(fail_ev h4).elim
theorem step_minmax (h:Inv E S α a w) (hd:dstOk E.n o) {c:Call} (ho:o.op= .call c) (mx:Bool) (hc:c.callee= .builtin (if mx=true then .max else .min)) {k:IntKind} {x y:Int}
  (hv:Al (VR (R0 E S.heap α w)) [vl (.int k x),vl (.int k y)] (c.args.toList.map a.eval)):Does E S a w o (dput o (vl (.int k (mnx mx x y)))):=by
 obtain⟨u,u',hmap,hu,hu'⟩:=args2 h hv;have e1:u= .int k x:=hu;have e2:u'= .int k y:=hu';subst e1 e2;refine Does.pure h hd (u:= .int k (mnx mx x y)) ?_ (vr_vl rfl);cases mx
 ·simp only[Bool.false_eq_true,if_false]at hc;simp [execOp,ho,resolve,hc,hmap,invoke,builtin,Builtin.min_,Builtin.min2,mnx]
 ·simp only[if_true]at hc;simp [execOp,ho,resolve,hc,hmap,invoke,builtin,Builtin.max_,Builtin.max2,mnx]
end
theorem run_append_in {P:Program} {w:World} {t ty:Nat} {d e:Td} (ht:TdOk P t d) {k0:Kd} (hk:d.k= .sl k0) (he:TdOk P d.el e) {b oo sLen sCap m c:Nat} {A:Option Addr} {news:List Value} (hl:news.length=m*e.k.sz)
  (hsrc:m≠0->∃b' o',A=some ⟨b',o',none⟩/\∀j v,news[j]? =some v->w.cell? ⟨b',o'+j,none⟩=some v) (h1:∀v∈news,v.oneCell'=true) (hroom:sLen+m<=sCap)
  (hc:∀j,j<news.length->(w.cell? ⟨b,oo+sLen*e.k.sz+j,none⟩).isSome=true) (hf:∀j,j<news.length->w.frozen? ⟨b,oo+sLen*e.k.sz+j,none⟩=false):
  (Builtin.append_ #[t,t] ty #[.slice (some ⟨b,oo,none⟩) sLen sCap, .slice A m c]).run P w= .ok (.slice (some ⟨b,oo,none⟩) (sLen+m) sCap) (w.setCells b (oo+sLen*e.k.sz) news):=by
 have hu:=ht.und;rw[hk]at hu;obtain⟨i,i1,i2,i3,i4⟩:=he.info;have hst:=run_storeCells_cells (P:=P) b (oo+sLen*e.k.sz) news 0 w (by simpa using hc) (by simpa using hf) h1;simp only[Nat.add_zero]at hst;have hfc:(Builtin.firstCells e.k.sz m (.slice A m c)).run P w= .ok news.toArray w:=by
  by_cases h0:m=0
  ·subst h0;have:news=[]:=List.eq_nil_of_length_eq_zero (by simpa using hl);subst this;cases A with
   |none=>simp [Builtin.firstCells]
   |some ad=>simp [Builtin.firstCells,loadCells,loadCellsFrom]
  ·obtain⟨b',o',rfl,hcl⟩:=hsrc h0;exact run_firstCells_some (P:=P) w e.k.sz m ⟨b',o',none⟩ m c news hl (fun j v hj=>by rw[add_plain];exact hcl j v hj)
 simp [Builtin.append_,run_underlying hu,sizeOf,typeInfo,i1,i2,Builtin.lenOf,hroom,hfc,Addr.add_lit,hst]
theorem run_append_zero {P:Program} {w:World} {t ty:Nat} {d e:Td} (ht:TdOk P t d) {k0:Kd} (hk:d.k= .sl k0) (he:TdOk P d.el e) {A A':Option Addr} {sLen sCap c:Nat} (hroom:sLen<=sCap):
  (Builtin.append_ #[t,t] ty #[.slice A' sLen sCap, .slice A 0 c]).run P w= .ok (.slice A' sLen sCap) w:=by
 have hu:=ht.und;rw[hk]at hu;obtain⟨i,i1,i2,i3,i4⟩:=he.info;have hfc:(Builtin.firstCells e.k.sz 0 (.slice A 0 c)).run P w= .ok #[] w:=by
  cases A with
  |none=>simp [Builtin.firstCells]
  |some ad=>simp [Builtin.firstCells,loadCells,loadCellsFrom]
 cases A'<;>simp [Builtin.append_,run_underlying hu,sizeOf,typeInfo,i1,i2,Builtin.lenOf,hroom,hfc,storeCells]
theorem run_append_new {P:Program} {w:World} {t ty:Nat} {d e:Td} (ht:TdOk P t d) {k0:Kd} (hk:d.k= .sl k0) (he:TdOk P d.el e) {zc:List Value} (hz:e.k.zero=some zc) {A A':Option Addr} {sLen sCap m c:Nat} {olds news:List Value} (hl:news.length=m*e.k.sz)
  (hlo:olds.length=sLen*e.k.sz) (hold:sLen≠0->∃b' o',A'=some ⟨b',o',none⟩/\∀j v,olds[j]? =some v->w.cell? ⟨b',o'+j,none⟩=some v) (hnil:A'=none->sLen=0/\sCap=0)
  (hm:m≠0) (hsrc:∃b' o',A=some ⟨b',o',none⟩/\∀j v,news[j]? =some v->w.cell? ⟨b',o'+j,none⟩=some v) (hg:sCap<sLen+m) (hby:(sLen+m)*e.bytes<=140737488355328) (hb0:e.bytes≠0):
  ∃(cap:Nat) (cs:Array Value),sLen+m<=cap/\cs.size=cap*e.k.sz/\(∀(j:Nat) (v:Value),(olds++news)[j]? =some v->cs[j]? =some v)/\
   (Builtin.append_ #[t,t] ty #[.slice A' sLen sCap, .slice A m c]).run P w= .ok (.slice (some ⟨w.heap.size,0,none⟩) (sLen+m) cap) (w.drew.alloc (.cells cs d.el)):=by
 have hu:=ht.und;rw[hk]at hu;obtain⟨i,i1,i2,i3,i4⟩:=he.info;obtain⟨z,z1,z2⟩:=i4 zc hz;have hzl:=(RdC.zero (w:=w) (M:=fun _ _=>False) hz).len;obtain⟨b',o',rfl,hcl⟩:=hsrc;have hbig:sLen+m<=140737488355328:=by
  have:(sLen+m)*1<=(sLen+m)*e.bytes:=Nat.mul_le_mul_left _ (by omega);omega
 have hge:=grownCap_ge w (sLen+m) sCap d.el;have hzs:z.cells.size=e.k.sz:=by rw[z2];simp [hzl]
 refine⟨grownCap w (sLen+m) sCap d.el,olds.toArray++news.toArray++Builtin.zeroCells z.cells (grownCap w (sLen+m) sCap d.el - (sLen+m)),hge,?_,?_,?_⟩
 ·simp only[Array.size_append,List.size_toArray,hlo,hl,size_zeroCells,hzs,<-Nat.add_mul];congr 1;omega
 ·intro j v hj;have hlt:j<(olds++news).length:=(List.getElem?_eq_some_iff.1 hj).1;rw[Array.getElem?_append_left (by simpa using hlt)];rw[<-Array.getElem?_toList];simpa using hj
 ·have hnews:∀j v,news[j]? =some v->w.cell? ((⟨b',o',none⟩:Addr).add j)=some v:=fun j v hj=>by rw[add_plain];exact hcl j v hj
  cases A' with
  |none=>
   obtain⟨rfl,rfl⟩:=hnil rfl;have ho:olds=[]:=List.eq_nil_of_length_eq_zero (by simpa using hlo);subst ho;have:=run_append_nil (P:=P) w t ty d.el i z hu i1 z1 ⟨b',o',none⟩ m c news (by rw[hl,i2]) hnews (by omega) (by omega) (by rw[i3];simp only[Nat.zero_add]at hby;omega);rw[this];simp
  |some ad=>
   have hfit:=growslice_fits (need:=sLen+m) (old:=sCap) (bytes:=i.bytes) hg (by rw[i3];exact hby);refine run_append_grow (P:=P) w t ty d.el i z hu i1 z1 ad sLen sCap olds (by rw[hlo,i2]) (fun j v hj=> ?_) ⟨b',o',none⟩ m c news (by rw[hl,i2]) hnews hg (by omega) hfit;have h0:sLen≠0:=by
    intro h0;rw[h0,Nat.zero_mul]at hlo;have:olds=[]:=List.eq_nil_of_length_eq_zero hlo;rw[this]at hj;simp at hj
   obtain⟨b2,o2,he,hcl2⟩:=hold h0;cases he;rw[add_plain];exact hcl2 j v hj
section
variable {cx:Cx} {E:En} {S:St} {α:Nat->CO} {a:Act} {w:World} {o:Oper} {us:List Up}
theorem kz (e:Td) (h:¬(e.bytes=0\/e.k.zero.isNone=true)):e.bytes≠0/\∃zc,e.k.zero=some zc:=by
 refine⟨fun h1=>h (.inl h1),?_⟩;cases hz:e.k.zero with
 |none=>exact absurd (.inr (by rw[hz];rfl)) h
 |some zc=>exact⟨zc,rfl⟩
theorem refAt_none {m fz:Bool} {k:Kd} {xs:List k.Ty} {A:Option (Nat×Nat)} {cap real:Nat} {u:Value} (h:SlAt A 0 xs.length real u):RefAt none u (.arr m fz k xs) (.arr A cap real):=by
 refine⟨by show 0+xs.length<=xs.length;omega,?_⟩;show SlAt A (0*k.sz) xs.length (real - 0) u;rw[Nat.zero_mul,Nat.sub_zero];exact h
theorem flat_elems {k:Kd} {w:World} {M:Nat->Nat->Prop} {ys:List k.Ty} {uss:List (List Value)} (h:Al (fun y es=>RdC w M k es y) ys uss) {cs:Nat->Option Value} (hc:∀j v,uss.flatten[j]? =some v->cs j=some v):
  ∀(i:Nat) (y:k.Ty),ys[i]? =some y->∃es,RdC w M k es y/\∀(j:Nat) (v:Value),es[j]? =some v->cs (i*k.sz+j)=some v:=by
 intro i y hy;obtain⟨es,h1,h2⟩:=h.get hy;refine⟨es,h2,fun j v hj=>hc _ _ ?_⟩;rw[flatten_get k.sz uss i j es (al_len h) h1 (by rw[<-h2.len];exact(List.getElem?_eq_some_iff.1 hj).1)];exact hj
theorem rows_vals {w:World} {M:Nat->Nat->Prop} {mine:Bool} {k:Kd} {hdr:List (Nat×Nat)} {inn:List (List k.Ty)} {A:Option (Nat×Nat)} {cap real:Nat} {ms:List (Option (Nat×Nat)×Nat×Nat)} (R:RowsOk w M mine k hdr inn A cap real ms):
  ∃us:List Value,us.length=hdr.length/\(∀u∈us,u.oneCell'=true)/\(hdr.length≠0->∃b o,A=some (b,o)/\∀j v,us[j]? =some v->w.cell? ⟨b,o+j,none⟩=some v)/\
   ∀(i:Nat) (p:Nat×Nat) (m:Option (Nat×Nat)×Nat×Nat),hdr[i]? =some p->ms[p.1]? =some m->∃u,us[i]? =some u/\SlR k m p.2 u:=by
 have hsl:∀ {A n c u},SlAt A 0 n c u->u.oneCell'=true:=by
  rintro A n c u ⟨A',rfl,_⟩
  rfl
 by_cases h0:hdr.length=0
 ·have:hdr=[]:=List.eq_nil_of_length_eq_zero h0;subst this;exact⟨[],rfl,by simp,fun h=>absurd rfl h,fun i p m h=>by simp at h⟩
 ·have hlen:=R.len;have hcr:=R.cr;cases hA:A with
  |none=>have:=R.non.1 hA;omega
  |some q=>
   obtain⟨b,oo⟩:=q;obtain⟨c1,c2⟩:=R.cel b oo hA;have hget:∀i,i<hdr.length->∃u,w.cell? ⟨b,oo+i,none⟩=some u/\∃m,ms[(hdr.getD i (0,0)).1]? =some m/\SlR k m (hdr.getD i (0,0)).2 u:=by
    intro i hi;have hp:hdr[i]? =some (hdr.getD i (0,0)):=by simp [hi]
    obtain⟨m,hm,_⟩:=R.hd i _ hp;obtain⟨u,d1,d2⟩:=c1 i _ m hp hm;exact⟨u,d1,m,hm,d2⟩
   refine⟨(List.range hdr.length).map fun i=>(w.cell? ⟨b,oo+i,none⟩).getD undef,by simp,?_,fun _=>⟨b,oo,rfl,fun j v hj=> ?_⟩,fun i p m hp hm=> ?_⟩
   ·intro u hu;obtain⟨i,hi,rfl⟩:=List.mem_map.1 hu;obtain⟨u,d1,m,_,d2⟩:=hget i (List.mem_range.1 hi);rw[d1];exact hsl d2.1
   ·rw[List.getElem?_map,Option.map_eq_some_iff]at hj;obtain⟨i,hi,rfl⟩:=hj;obtain⟨hi1,hi2⟩:=List.getElem?_eq_some_iff.1 hi;simp at hi1 hi2;subst hi2;obtain⟨u,d1,_⟩:=hget j hi1;rw[d1];rfl
   ·have hi:i<hdr.length:=(List.getElem?_eq_some_iff.1 hp).1;obtain⟨u,d1,d2⟩:=c1 i p m hp hm;exact⟨u,by simp [hi,d1],d2⟩
theorem rows_join {w:World} {M:Nat->Nat->Prop} {k:Kd} {hdr hdr2:List (Nat×Nat)} {inn inn2:List (List k.Ty)} {A:Option (Nat×Nat)} {cap:Nat} {ms ms2:List (Option (Nat×Nat)×Nat×Nat)}
  (hd1:∀(i:Nat) (p:Nat×Nat),hdr[i]? =some p->∃m,ms[p.1]? =some m/\p.2<=m.2.1) (hd2:∀(i:Nat) (p:Nat×Nat),hdr2[i]? =some p->∃m,ms2[p.1]? =some m/\p.2<=m.2.1) (hml:ms.length=inn.length)
  (Ms:Mems w M k (inn++inn2) (ms++ms2)) (hlen:hdr.length+hdr2.length<=cap) (hnon:A=none↔cap=0)
  (hc:∀b o,A=some (b,o)->(∀(i:Nat) (p:Nat×Nat) (m:Option (Nat×Nat)×Nat×Nat),hdr[i]? =some p->ms[p.1]? =some m->∃u,w.cell? ⟨b,o+i,none⟩=some u/\SlR k m p.2 u)/\
   (∀(i:Nat) (p:Nat×Nat) (m:Option (Nat×Nat)×Nat×Nat),hdr2[i]? =some p->ms2[p.1]? =some m->∃u,w.cell? ⟨b,o+hdr.length+i,none⟩=some u/\SlR k m p.2 u)/\
   ∀j,j<cap->(∃v,w.cell? ⟨b,o+j,none⟩=some v)/\w.frozen? ⟨b,o+j,none⟩=false)
  (hdO:∀m∈ms++ms2,∀b o oo,seg k m b o->A=some (b,oo)->oo<=o->o<oo+cap->False):RowsOk w M true k (joinH inn.length hdr hdr2) (inn++inn2) A cap cap (ms++ms2):=by
 have hget:∀(i:Nat) (p:Nat×Nat),(joinH inn.length hdr hdr2)[i]? =some p->(hdr[i]? =some p)\/(hdr.length<=i/\∃q,hdr2[i - hdr.length]? =some q/\p=(q.1+inn.length,q.2)):=by
  intro i p hp;unfold joinH at hp;rw[List.getElem?_append]at hp;split at hp
  ·exact .inl hp
  ·rename_i hi;rw[List.getElem?_map,Option.map_eq_some_iff]at hp;obtain⟨q,h1,h2⟩:=hp;exact .inr ⟨by omega,q,h1,h2.symm⟩
 have hms1:∀j m,ms[j]? =some m->(ms++ms2)[j]? =some m:=fun j m hm=>by rw[List.getElem?_append_left (List.getElem?_eq_some_iff.1 hm).1];exact hm
 have hms2:∀j,(ms++ms2)[j+inn.length]? =ms2[j]? :=fun j=>by rw[List.getElem?_append_right (by omega),hml];congr 1;omega
 refine⟨by simp [joinH];omega,fun h=>(by cases h),Nat.le_refl _,fun _=>rfl,hnon,Ms.ml,fun i p hp=> ?_,fun b o hA=> ?_,Ms.mem,Ms.dj,hdO⟩
 ·rcases hget i p hp with h1|⟨_,q,h1,rfl⟩
  ·obtain⟨m,h2,h3⟩:=hd1 i p h1;exact⟨m,hms1 _ _ h2,h3⟩
  ·obtain⟨m,h2,h3⟩:=hd2 _ q h1;exact⟨m,by show(ms++ms2)[q.1+inn.length]? =_;rw[hms2];exact h2,h3⟩
 ·obtain⟨c1,c2,c3⟩:=hc b o hA;refine⟨fun i p m hp hm=> ?_,c3⟩;rcases hget i p hp with h1|⟨hle,q,h1,rfl⟩
  ·obtain⟨m',h2,h3⟩:=hd1 i p h1;rw[hms1 _ _ h2]at hm;cases hm;exact c1 i p _ h1 h2
  ·obtain⟨m',h2,h3⟩:=hd2 _ q h1;have hm:(ms++ms2)[q.1+inn.length]? =some m:=hm;rw[hms2,h2]at hm;cases hm;obtain⟨u,d1,d2⟩:=c2 _ q _ h1 h2;rw[show o+hdr.length+(i - hdr.length)=o+i by omega]at d1;exact⟨u,d1,d2⟩
theorem isRows_eq {ob:Nat×AO} {g:Nat} {k:Kd} {hdr:List (Nat×Nat)} {inn:List (List k.Ty)} (h:isRows ob g=some ⟨k,hdr,inn⟩):ob.1=g/\∃rg,ob.2= .rows true k rg hdr inn:=by
 unfold isRows at h;split at h
 case isFalse=>cases h
 rename_i hg;split at h
 ·rename_i k' rg hdr' inn' ho;simp only[Option.some.injEq,Sigma.mk.injEq]at h;obtain⟨rfl,h⟩:=h;cases h;exact⟨hg,rg,ho⟩
 ·cases h
theorem ups_take3 {S:St} {l l2 g g2:Nat} {ob:AO} {us:List Up} (hne:l≠l2) (h2:(S.heap l2).1=g2):S.ups (.set l2 (g2+1) .no:: .set l g ob::us)=({S with heap:=takeH S.heap l l2 g ob} :St).ups us:=by
 rw[show(Up.set l2 (g2+1) AO.no:: .set l g ob::us)=[.set l2 (g2+1) .no, .set l g ob]++us from rfl,ups_append,ups_take hne h2]
theorem alloc_same {w w1:World} (hw1:w1.heap=w.heap) (cs:Array Value) (e:Nat):∀b o v,w.cell? ⟨b,o,none⟩=some v->(w1.alloc (.cells cs e)).cell? ⟨b,o,none⟩=some v/\(w1.alloc (.cells cs e)).frozen? ⟨b,o,none⟩=w.frozen? ⟨b,o,none⟩:=by
 intro b o v hc;have:=Go.RowKit.Below.heap_alloc w1 (.cells cs e) b (by rw[hw1];exact World.block_lt_of_cell? _ _ hc);rw[hw1]at this;simp only[World.cell?,World.frozen?]at hc ⊢;rw[this];exact⟨hc,rfl⟩
theorem map_castL {k:Kd} (xs:List (List k.Ty)) (h:k=k):xs.map (castL (k':= .sl k) (k:= .sl k) (by rw[h]))=xs:=by
 have:(castL (k':= .sl k) (k:= .sl k) (by rw[h]):(Kd.sl k).Ty->(Kd.sl k).Ty)=id:=rfl;rw[this];exact List.map_id xs
theorem step_appRows (ht:TdsOk cx E.P) (h:Inv E S α a w) (hd:dstOk E.n o) {c:Call} (ho:o.op= .call c) (hc:c.callee= .builtin .append) {t:Nat} (hat:c.argTypes= #[t,t]) {s:A0} {l2 g2:Nat} {u u':Value} (hmap:c.args.map a.eval= #[u,u'])
  (hu:R0 E S.heap α w s u) (hu':R0 E S.heap α w (.ref l2 g2 none) u') {d e:Td} {k0:Kd} (hf:find t cx.td=some d) (hk:d.k= .sl k0) (hfe:find d.el cx.td=some e) (hb0:e.bytes≠0) {zc:List Value} (hz:e.k.zero=some zc) (hsz:e.k.sz=1)
  {k2:Kd} {rg2:Nat} {hdr2:List (Nat×Nat)} {inn2:List (List k2.Ty)} (hob2:(S.heap l2).2= .rows true k2 rg2 hdr2 inn2) (hg2:(S.heap l2).1=g2) (hs:(sAppRows o e s l2 g2 k2 hdr2 inn2).ev S=some us):Does E S a w o us:=by
 have htd:=ht t d hf;have hed:=ht _ e hfe;have hgo:∀ {r:Value} {w':World},(Builtin.append_ #[t,t] o.type #[u,u']).run E.P w= .ok r w'->(execOp a.eval o).run E.P w= .ok (.value r) w':=by
  intro r w' hr;simp [execOp,ho,resolve,hc,hmap,invoke,builtin,hat,hr]
 obtain⟨A2,cap2,real2,ms2,hα2,R2⟩:=rows_co h hob2;have hp2:=hu'.1.2 hg2;rw[hob2,hα2]at hp2;obtain⟨_,A2',hue',q2,q3⟩:=hp2;have hue':u'= .slice A2' hdr2.length (real2 - 0):=hue';have q3:0<real2 - 0->∃b o,A2=some (b,o)/\A2'=some ⟨b,o+0,none⟩:=q3;clear q2;subst hue';obtain⟨news,n1,n2,n3,n4⟩:=rows_vals R2;have hlen2:=R2.len;have hcr2:=R2.cr;have hfp2:∀b o,fp (.rows true k2 rg2 hdr2 inn2) (.rows A2 cap2 real2 ms2) b o->fp (S.heap l2).2 (α l2) b o:=fun b o hf=>by rw[hob2,hα2];exact hf
 have hsrc:hdr2.length≠0->∃b' o',A2'=some ⟨b',o',none⟩/\∀j v,news[j]? =some v->w.cell? ⟨b',o'+j,none⟩=some v:=by
  intro hn;obtain⟨b,o,hA,hcl⟩:=n3 hn;obtain⟨b',o',hA',hA2'⟩:=q3 (by omega);rw[hA]at hA';cases hA';exact⟨b,o,hA2',hcl⟩
 have hnl:news.length=hdr2.length*e.k.sz:=by rw[hsz,Nat.mul_one];exact n1
 unfold sAppRows at hs;split at hs
 ·
  obtain⟨hby,hs⟩:=need_ev hs;split at hs
  ·exact(fail_ev hs).elim
  rename_i hne;obtain⟨qs,h4,rfl⟩:=new_ev hs;rw[<-ret_ev h4];have hu0:u= .slice none 0 0:=hu;subst hu0
  by_cases hn:hdr2.length=0
  ·have hye:hdr2=[]:=List.eq_nil_of_length_eq_zero hn;subst hye;have hrun:=hgo (run_append_zero (P:=E.P) (w:=w) (ty:=o.type) htd hk hed (A:=A2') (A':=none) (sLen:=0) (sCap:=0) (c:=real2 - 0) (Nat.le_refl _))
   have hi:=h.take (l:=nm o 0) (l2:=l2) hne (by rw[hob2];rfl) ((S.heap (nm o 0)).1+1) (.rows true k2 0 [] inn2) (.rows none 0 0 ms2) (w':=w) (fun b o v hc _=>⟨hc,rfl⟩) h.fr
    (fun b o hf=>by
     rcases hf with ⟨oo,hq,_⟩|⟨m,hm,hs⟩
     ·cases hq
     ·exact .inr (.inl (hfp2 b o (.inr ⟨m,hm,hs⟩)))) rfl (by omega) (fun he=>by omega)
    (fun M' Mb' H' α' k1 kb=>by
     have Ms:=R2.mems.mono k1 (fun m _ b i v _ hc=>⟨hc,rfl⟩);exact⟨Nat.le_refl _,fun h=>(by cases h),Nat.le_refl _,fun _=>rfl,by simp,Ms.ml,fun i p hp=>(by simp at hp),fun b o hA=>(by cases hA),Ms.mem,Ms.dj,fun m hm b o oo _ hA=>(by cases hA)⟩)
   refine Does.val (α':=fun m=>if m=nm o 0 then .rows none 0 0 ms2 else if m=l2 then .no else α m) hrun ?_;rw[ups_take2 hne hg2];refine hi.dput hd (vr_c0 ⟨⟨?_,fun _=> ?_⟩,rfl⟩)
   ·simp [takeH]
   ·simp only[takeH,if_true];exact⟨Nat.le_refl _,none,rfl,Nat.le_refl _,fun hc=>by simp at hc⟩
  ·obtain⟨b',o',rfl,q4⟩:=hsrc hn;obtain⟨cap,cs,r1,r2,r3,r4⟩:=run_append_new (P:=E.P) (w:=w) (ty:=o.type) htd hk hed hz (A:=some ⟨b',o',none⟩) (A':=none) (sLen:=0) (sCap:=0) (m:=hdr2.length) (c:=real2 - 0) (olds:=[]) (news:=news) hnl (by simp) (fun h=>absurd rfl h) (fun _=>⟨rfl,rfl⟩) hn ⟨b',o',rfl,q4⟩ (by omega) (by simpa using hby) hb0;simp only[List.nil_append,Nat.zero_add]at r1 r3 r4;rw[hsz,Nat.mul_one]at r2;have hsame:=alloc_same (w:=w) (w1:=w.drew) rfl cs d.el;have hnew:∀i,(w.drew.alloc (.cells cs d.el)).cell? ⟨w.heap.size,i,none⟩=cs[i]? :=fun i=>World.cell?_alloc_new w.drew cs d.el i
   have hi:=h.take (l:=nm o 0) (l2:=l2) hne (by rw[hob2];rfl) ((S.heap (nm o 0)).1+1) (.rows true k2 0 hdr2 inn2) (.rows (some (w.heap.size,0)) cap cap ms2) (w':=w.drew.alloc (.cells cs d.el)) (fun b o v hc _=>hsame b o v hc) (Fr.trans h.fr ⟨rfl,rfl,rfl,by simp,fun b hlt=> .inl (Go.RowKit.Below.heap_alloc w.drew _ b hlt)⟩)
    (fun b o hf=>by
     rcases hf with ⟨oo,hq,_⟩|⟨m,hm,hs⟩
     ·cases hq;exact .inr (.inr (Nat.le_refl _))
     ·exact .inr (.inl (hfp2 b o (.inr ⟨m,hm,hs⟩)))) rfl (by omega) (fun he=>by omega)
    (fun M' Mb' H' α' k1 kb=>by
     have Ms:=R2.mems.mono k1 (fun m _ b i v _ hc=>hsame b i v hc);refine⟨r1,fun h=>(by cases h),Nat.le_refl _,fun _=>rfl,?_,Ms.ml,R2.hd,fun b o hA=> ?_,Ms.mem,Ms.dj,fun m hm b o oo hs hA _ _=> ?_⟩
     ·simp;omega
     ·cases hA;refine⟨fun i p m hp hm=> ?_,fun j hj=>⟨⟨cs[j]'(by omega),?_⟩,World.frozen?_alloc_new w.drew cs d.el _⟩⟩
      ·obtain⟨v,v1,v2⟩:=n4 i p m hp hm;exact⟨v,by rw[hnew,Nat.zero_add];exact r3 i v v1,v2⟩
      ·rw[hnew,Nat.zero_add];exact Array.getElem?_eq_getElem _
     ·cases hA;have:=(h.obj l2).lt (hfp2 _ _ (.inr ⟨m,hm,hs⟩));omega)
   refine Does.val (α':=fun m=>if m=nm o 0 then .rows (some (w.heap.size,0)) cap cap ms2 else if m=l2 then .no else α m) (hgo r4) ?_;rw[ups_take2 hne hg2];refine hi.dput hd (vr_c0 ⟨⟨?_,fun _=> ?_⟩,rfl⟩)
   ·simp [takeH]
   ·simp only[takeH,if_true];exact⟨by show 0+hdr2.length<=hdr2.length;omega,some ⟨w.heap.size,0,none⟩,rfl,r1,fun _=>⟨_,_,rfl,rfl⟩⟩
 ·
  rename_i l g;split at hs
  ·exact(fail_ev hs).elim
  rename_i hne;simp only[Cm.ev]at hs;split at hs
  case isFalse=>exact(fail_ev hs).elim
  rename_i hg;split at hs
  case h_2=>exact(fail_ev hs).elim
  rename_i k rg hdr inn hob;split at hs
  case isFalse=>exact(fail_ev hs).elim
  rename_i hkk;subst hkk;obtain⟨hby,hs⟩:=need_ev hs;rw[<-ret_ev hs,map_castL _ rfl];obtain⟨A,cap,real,ms,hα,R⟩:=rows_co h hob;have hp:=hu.1.2 hg;rw[hob,hα]at hp;obtain⟨_,A',hue,p2,p3⟩:=hp;have hue:u= .slice A' hdr.length (real - 0):=hue;have p3:0<real - 0->∃b o,A=some (b,o)/\A'=some ⟨b,o+0,none⟩:=p3;subst hue;have hcr:cap=real:=R.mcap rfl;subst hcr;have hlen:=R.len;have hfp:∀b o,fp (.rows true k2 rg hdr inn) (.rows A cap cap ms) b o->fp (S.heap l).2 (α l) b o:=fun b o hf=>by rw[hob,hα];exact hf
  obtain⟨olds,o1,o2,o3,o4⟩:=rows_vals R;have Ms0:Mems w (MM E.M0 S.heap α) k2 (inn++inn2) (ms++ms2):=R.mems.app R2.mems (fun m hm m2 hm2 b o h1 h2=>h.dsj l l2 b o hne (hfp b o (.inr ⟨m,hm,h1⟩)) (hfp2 b o (.inr ⟨m2,hm2,h2⟩)));have hmine:isMine (S.heap l).2=true:=by rw[hob];rfl
  by_cases hin:hdr.length+hdr2.length<=cap
  ·by_cases hc0:cap=0
   ·
    have e1:hdr=[]:=List.eq_nil_of_length_eq_zero (by omega);have e2:hdr2=[]:=List.eq_nil_of_length_eq_zero (by omega);subst e1 e2;have hrun:=hgo (run_append_zero (P:=E.P) (w:=w) (ty:=o.type) htd hk hed (A:=A2') (A':=A') (sLen:=0) (sCap:=cap - 0) (c:=real2 - 0) (by omega));have hA0:A=none:=R.non.2 hc0
    have hi:=h.take hne (by rw[hob2];rfl) (g+1) (.rows true k2 0 (joinH inn.length [] []) (inn++inn2)) (.rows none 0 0 (ms++ms2)) (w':=w) (fun b o v hc _=>⟨hc,rfl⟩) h.fr
     (fun b o hf=>by
      rcases hf with ⟨oo,hq,_⟩|⟨m,hm,hs⟩
      ·cases hq
      ·rcases List.mem_append.1 hm with hm|hm
       ·exact .inl ⟨hfp b o (.inr ⟨m,hm,hs⟩),hmine⟩
       ·exact .inr (.inl (hfp2 b o (.inr ⟨m,hm,hs⟩)))) rfl (by omega) (fun he=>by omega)
     (fun M' Mb' H' α' k1 kb=>by
      have Ms:=Ms0.mono k1 (fun m _ b i v _ hc=>⟨hc,rfl⟩);exact⟨Nat.le_refl _,fun h=>(by cases h),Nat.le_refl _,fun _=>rfl,by simp,Ms.ml,fun i p hp=>(by simp [joinH]at hp),fun b o hA=>(by cases hA),Ms.mem,Ms.dj,fun m hm b o oo _ hA=>(by cases hA)⟩)
    refine Does.val (α':=fun m=>if m=l then .rows none 0 0 (ms++ms2)else if m=l2 then .no else α m) hrun ?_;rw[ups_take3 hne hg2];refine hi.dput hd (vr_c0 ⟨⟨?_,fun _=> ?_⟩,rfl⟩)
    ·simp [takeH]
    ·simp only[takeH,if_true];exact⟨Nat.le_refl _,A',by subst hc0;rfl,Nat.le_refl _,fun hc=>by simp at hc⟩
   ·obtain⟨b,oo,hA,hA'⟩:=p3 (by omega);subst hA hA';obtain⟨c1,c2⟩:=R.cel b oo rfl;have hcell:∀j,j<news.length->(∃v,w.cell? ⟨b,oo+0+hdr.length*e.k.sz+j,none⟩=some v)/\w.frozen? ⟨b,oo+0+hdr.length*e.k.sz+j,none⟩=false:=by
     intro j hj;have:=c2 (hdr.length+j) (by omega);rwa [show oo+(hdr.length+j)=oo+0+hdr.length*e.k.sz+j by rw[hsz];omega]at this
    have hsome:∀j,j<news.length->(w.cell? ⟨b,oo+0+hdr.length*e.k.sz+j,none⟩).isSome=true:=fun j hj=>by
     obtain⟨⟨v,hv⟩,_⟩:=hcell j hj;rw[hv];rfl
    have hrun:=hgo (run_append_in (P:=E.P) (w:=w) (ty:=o.type) htd hk hed (b:=b) (oo:=oo+0) (sLen:=hdr.length) (sCap:=cap - 0) (m:=hdr2.length) (c:=real2 - 0) (A:=A2') hnl
     hsrc n2 (by omega) hsome (fun j hj=>(hcell j hj).2))
    have hpos:oo+0+hdr.length*e.k.sz=oo+hdr.length:=by rw[hsz];omega
    rw[hpos]at hrun hsome;have hfpo:∀j,hdr.length<=j->j<cap->fp (S.heap l).2 (α l) b (oo+j):=fun j h1 h2=>hfp _ _ (.inl ⟨oo,rfl,by omega,by omega⟩)
    have hout:∀b' i' v',w.cell? ⟨b',i',none⟩=some v'->¬(b'=b/\oo+hdr.length<=i'/\i'<oo+hdr.length+news.length)->(w.setCells b (oo+hdr.length) news).cell? ⟨b',i',none⟩=some v'/\(w.setCells b (oo+hdr.length) news).frozen? ⟨b',i',none⟩=w.frozen? ⟨b',i',none⟩:=by
     intro b' i' v' hc hn;refine⟨?_,setCells_fz _ _ _ _ _⟩;rw[setCells_out _ _ _ _ hn];exact hc
    have hi:=h.take hne (by rw[hob2];rfl) (g+1) (.rows true k2 0 (joinH inn.length hdr hdr2) (inn++inn2)) (.rows (some (b,oo)) cap cap (ms++ms2)) (w':=w.setCells b (oo+hdr.length) news)
     (fun b' i' v' hc hn=>hout b' i' v' hc (by
      rintro ⟨rfl,w1,w2⟩
      have:=hfpo (i' - oo) (by omega) (by omega);rw[show oo+(i' - oo)=i' by omega]at this;exact hn this)) (own_fr h (fun q hq=>by
      have:=hfpo (hdr.length+q) (by omega) (by omega);rwa [show oo+(hdr.length+q)=oo+hdr.length+q by omega]at this))
     (fun b o hf=>by
      rcases hf with hq|⟨m,hm,hs⟩
      ·exact .inl ⟨hfp b o (.inl hq),hmine⟩
      ·rcases List.mem_append.1 hm with hm|hm
       ·exact .inl ⟨hfp b o (.inr ⟨m,hm,hs⟩),hmine⟩
       ·exact .inr (.inl (hfp2 b o (.inr ⟨m,hm,hs⟩)))) rfl (by omega) (fun he=>by omega)
     (fun M' Mb' H' α' k1 kb=>by
      have hdO:∀m∈ms++ms2,∀b' o' oo',seg k2 m b' o'->some (b,oo)=some (b',oo')->oo'<=o'->o'<oo'+cap->False:=by
       intro m hm b' o' oo' hs hq w1 w2;rcases List.mem_append.1 hm with hm|hm
       ·exact R.dO m hm b' o' oo' hs hq w1 w2
       ·exact h.dsj l l2 b' o' hne (hfp _ _ (.inl ⟨oo',hq,w1,w2⟩)) (hfp2 _ _ (.inr ⟨m,hm,hs⟩))
      have Ms:=Ms0.mono k1 (fun m hm b' i v hs hc=>hout b' i v hc (by
       rintro ⟨rfl,w1,w2⟩
       exact hdO m hm b' i oo hs rfl (by omega) (by omega)))
      refine rows_join R.hd R2.hd R.ml Ms hin (by simp [hc0]) (fun b' o' hA=> ?_) hdO;cases hA;refine⟨fun i p m hp hm=> ?_,fun i p m hp hm=> ?_,fun j hj=> ?_⟩
      ·obtain⟨u,d1,d2⟩:=c1 i p m hp hm;have hil:=(List.getElem?_eq_some_iff.1 hp).1;exact⟨u,(hout b _ u d1 (by rintro ⟨_,w1,w2⟩;omega)).1,d2⟩
      ·obtain⟨v,v1,v2⟩:=n4 i p m hp hm;exact⟨v,setCells_get w b (oo+hdr.length) news hsome v1,v2⟩
      ·obtain⟨⟨v,s1⟩,s2⟩:=c2 j hj;exact⟨(setCells_like b news _ w).some s1,by rw[World.frozen?_setCells];exact s2⟩)
    refine Does.val (α':=fun m=>if m=l then .rows (some (b,oo)) cap cap (ms++ms2)else if m=l2 then .no else α m) hrun ?_;rw[ups_take3 hne hg2];refine hi.dput hd (vr_c0 ⟨⟨?_,fun _=> ?_⟩,rfl⟩)
    ·simp [takeH]
    ·simp only[takeH,if_true];have hjl:(joinH inn.length hdr hdr2).length=hdr.length+hdr2.length:=by simp [joinH]
     refine⟨by show 0+_<=_;simp [vlen],some ⟨b,oo+0,none⟩,?_,?_,fun _=>⟨_,_,rfl,rfl⟩⟩
     ·show _=Value.slice _ (joinH inn.length hdr hdr2).length _;rw[hjl];rfl
     ·show(joinH inn.length hdr hdr2).length<=cap - 0;omega
  ·
   have hn:hdr2.length≠0:=by omega
   obtain⟨b',o',rfl,q4⟩:=hsrc hn
   obtain⟨cap',cs,r1,r2,r3,r4⟩:=run_append_new (P:=E.P) (w:=w) (ty:=o.type) htd hk hed hz (A:=some ⟨b',o',none⟩) (A':=A') (sLen:=hdr.length) (sCap:=cap - 0) (m:=hdr2.length) (c:=real2 - 0) (olds:=olds) (news:=news) hnl (by rw[hsz,Nat.mul_one];exact o1)
    (fun h0=>by
     obtain⟨b,oo,hA,hcl⟩:=o3 h0;obtain⟨b3,o3',hA3,hA3'⟩:=p3 (by omega);rw[hA]at hA3;cases hA3;exact⟨b,oo,hA3',hcl⟩) (fun hA=>by
     by_cases hc0:cap=0
     ·exact⟨by omega,by omega⟩
     ·obtain⟨b,oo,_,hA'⟩:=p3 (by omega);rw[hA]at hA';cases hA') hn ⟨b',o',rfl,q4⟩ (by omega) hby hb0
   rw[hsz,Nat.mul_one]at r2;have hsame:=alloc_same (w:=w) (w1:=w.drew) rfl cs d.el;have hnew:∀i,(w.drew.alloc (.cells cs d.el)).cell? ⟨w.heap.size,i,none⟩=cs[i]? :=fun i=>World.cell?_alloc_new w.drew cs d.el i
   have hi:=h.take hne (by rw[hob2];rfl) (g+1) (.rows true k2 0 (joinH inn.length hdr hdr2) (inn++inn2)) (.rows (some (w.heap.size,0)) cap' cap' (ms++ms2)) (w':=w.drew.alloc (.cells cs d.el)) (fun b o v hc _=>hsame b o v hc) (Fr.trans h.fr ⟨rfl,rfl,rfl,by simp,fun b hlt=> .inl (Go.RowKit.Below.heap_alloc w.drew _ b hlt)⟩)
    (fun b o hf=>by
     rcases hf with ⟨oo,hq,_⟩|⟨m,hm,hs⟩
     ·cases hq;exact .inr (.inr (Nat.le_refl _))
     ·rcases List.mem_append.1 hm with hm|hm
      ·exact .inl ⟨hfp b o (.inr ⟨m,hm,hs⟩),hmine⟩
      ·exact .inr (.inl (hfp2 b o (.inr ⟨m,hm,hs⟩)))) rfl (by omega) (fun he=>by omega)
    (fun M' Mb' H' α' k1 kb=>by
     have Ms:=Ms0.mono k1 (fun m _ b i v _ hc=>hsame b i v hc);refine rows_join R.hd R2.hd R.ml Ms r1 (by simp;omega) (fun b o hA=> ?_) (fun m hm b o oo hs hA _ _=> ?_)
     ·cases hA;refine⟨fun i p m hp hm=> ?_,fun i p m hp hm=> ?_,fun j hj=>⟨⟨cs[j]'(by omega),?_⟩,World.frozen?_alloc_new w.drew cs d.el _⟩⟩
      ·obtain⟨v,v1,v2⟩:=o4 i p m hp hm;refine⟨v,?_,v2⟩;rw[hnew,Nat.zero_add];refine r3 i v ?_;rw[List.getElem?_append_left (List.getElem?_eq_some_iff.1 v1).1];exact v1
      ·obtain⟨v,v1,v2⟩:=n4 i p m hp hm;refine⟨v,?_,v2⟩;rw[hnew,Nat.zero_add];refine r3 _ v ?_;rw[List.getElem?_append_right (by omega),o1,Nat.add_sub_cancel_left];exact v1
      ·rw[hnew,Nat.zero_add];exact Array.getElem?_eq_getElem _
     ·cases hA;rcases List.mem_append.1 hm with hm|hm
      ·have:=(h.obj l).lt (hfp _ _ (.inr ⟨m,hm,hs⟩));omega
      ·have:=(h.obj l2).lt (hfp2 _ _ (.inr ⟨m,hm,hs⟩));omega)
   refine Does.val (α':=fun m=>if m=l then .rows (some (w.heap.size,0)) cap' cap' (ms++ms2)else if m=l2 then .no else α m) (hgo r4) ?_;rw[ups_take3 hne hg2];refine hi.dput hd (vr_c0 ⟨⟨?_,fun _=> ?_⟩,rfl⟩)
   ·simp [takeH]
   ·simp only[takeH,if_true];have hjl:(joinH inn.length hdr hdr2).length=hdr.length+hdr2.length:=by simp [joinH]
    refine⟨by show 0+_<=_;simp [vlen],some ⟨w.heap.size,0,none⟩,?_,?_,fun _=>⟨_,_,rfl,rfl⟩⟩
    ·show _=Value.slice _ (joinH inn.length hdr hdr2).length _;rw[hjl];rfl
    ·show(joinH inn.length hdr hdr2).length<=cap' - 0;omega
 ·exact(fail_ev hs).elim
theorem step_append (ht:TdsOk cx E.P) (h:Inv E S α a w) (hd:dstOk E.n o) {c:Call} (ho:o.op= .call c) (hc:c.callee= .builtin .append) {t:Nat} (hat:c.argTypes= #[t,t]) {s x:A0}
  (hv:Al (VR (R0 E S.heap α w)) [.one false [s], .one false [x]] (c.args.toList.map a.eval))
  (hs:(sAppend cx o t s x).ev S=some us):Does E S a w o us:=by
 obtain⟨u,u',hmap,hu,hu'⟩:=args2 h hv;unfold sAppend at hs;obtain⟨d,k0,e,hf,hk,hfe,h0⟩:=elOf_ev hs;split at h0
 ·exact(fail_ev h0).elim
 rename_i hez;obtain⟨hb0,zc,hz⟩:=kz e hez
 by_cases hrows:∃l2 g2 k2 hdr2 inn2,x= .ref l2 g2 none/\isRows (S.heap l2) g2=some ⟨k2,hdr2,inn2⟩
 ·obtain⟨l2,g2,k2,hdr2,inn2,rfl,hrw⟩:=hrows;obtain⟨hg2,rg2,hob2⟩:=isRows_eq hrw;simp only[Cm.ev,hrw]at h0;split at h0
  case isFalse=>exact(fail_ev h0).elim
  rename_i hsz;exact step_appRows ht h hd ho hc hat hmap hu hu' hf hk hfe hb0 hz hsz hob2 hg2 h0
 have h1:(sAppArr o e s x).ev S=some us:=by
  split at h0
  ·rename_i l2 g2;simp only[Cm.ev]at h0;split at h0
   ·rename_i k2 hdr2 inn2 hrw;exact absurd ⟨l2,g2,k2,hdr2,inn2,rfl,hrw⟩ hrows
   ·exact h0
  ·exact h0
 clear hs h0;unfold sAppArr at h1;have hpos:=Kd.sz_pos e.k;have htd:=ht t d hf;have hed:=ht _ e hfe;have hgo:∀ {r:Value} {w':World},(Builtin.append_ #[t,t] o.type #[u,u']).run E.P w= .ok r w'->(execOp a.eval o).run E.P w= .ok (.value r) w':=by
  intro r w' hr;simp [execOp,ho,resolve,hc,hmap,invoke,builtin,hat,hr]
 cases s<;>try exact(fail_ev h1).elim
 case v y=>
  cases y<;>try exact(fail_ev h1).elim
  rename_i A n cc;cases A<;>try exact(fail_ev h1).elim
  cases n<;>try exact(fail_ev h1).elim
  cases cc<;>try exact(fail_ev h1).elim
  obtain⟨ys,h2,A,cp,uss,rfl,q2,q3⟩:=tail_ev h hu' h1;obtain⟨hby,h3⟩:=need_ev h2;obtain⟨qs,h4,rfl⟩:=new_ev h3;rw[<-ret_ev h4];have hu0:u= .slice none 0 0:=hu;subst hu0
  by_cases hn:ys.length=0
  ·have hye:ys=[]:=List.eq_nil_of_length_eq_zero hn;subst hye;have hrun:=hgo (run_append_zero (P:=E.P) (w:=w) (ty:=o.type) htd hk hed (A:=A) (A':=none) (sLen:=0) (sCap:=0) (c:=cp) (Nat.le_refl _));have hi:=h.one (nm o 0) ((S.heap (nm o 0)).1+1) (.arr true false e.k []) (.arr none 0 0) (w':=w) (fun b i v hc _=>⟨hc,rfl⟩) h.fr
    (fun b i hf=>by simp [fp]at hf) (fun b i hf=>by simp [fp]at hf) (fun hm=>by cases hm) (by omega) (by omega) (fun M' Mb' H' α' k1 k2 hgo=>⟨by simp,by simp,fun _=>rfl,fun _=>rfl,fun b oo hA=>by simp at hA⟩)
   refine Does.val (α':=fun m=>if m=nm o 0 then .arr none 0 0 else α m) hrun ?_;rw[ups_cons];refine hi.dput hd (vr_c0 ⟨⟨?_,fun _=> ?_⟩,rfl⟩)
   ·rw[up_set_heap];exact Nat.le_refl _
   ·rw[up_set_heap];simp only[if_true];exact⟨by simp [voff,vlen],none,rfl,by simp [vlen],fun hc=>by simp at hc⟩
  ·obtain⟨b',o',rfl,q4⟩:=q3 hn;have hfl:uss.flatten.length=ys.length*e.k.sz:=by rw[flatten_length e.k.sz uss (al_len q2),q2.length]
   obtain⟨cap,cs,r1,r2,r3,r4⟩:=run_append_new (P:=E.P) (w:=w) (ty:=o.type) htd hk hed hz (A:=some ⟨b',o',none⟩) (A':=none) (sLen:=0) (sCap:=0) (m:=ys.length) (c:=cp) (olds:=[]) (news:=uss.flatten) hfl (by simp) (fun h=>absurd rfl h) (fun _=>⟨rfl,rfl⟩) hn ⟨b',o',rfl,q4⟩ (by omega) (by simpa using hby) hb0;simp only[List.nil_append,Nat.zero_add]at r1 r3 r4;exact does_arr h hd (w1:=w.drew) rfl ⟨rfl,rfl,rfl⟩ (n:=ys.length) (cap:=cap) (k:=e.k) (xs:=ys) (cs:=cs) (vw:=none) (flat_elems q2 (cs:=fun j=>cs[j]?) r3) r1 r2 rfl rfl (Nat.le_refl _) (hgo r4)
 case ref l g vw=>
  simp only[Cm.ev]at h1;split at h1
  case isFalse=>exact(fail_ev h1).elim
  rename_i hg;split at h1
  case h_2=>exact(fail_ev h1).elim
  rename_i k full hob;split at h1
  case isFalse=>exact(fail_ev h1).elim
  rename_i hke;subst hke;obtain⟨ys,h2,A,cp,uss,rfl,q2,q3⟩:=tail_ev h hu' h1;obtain⟨hby,h3⟩:=need_ev h2;rw[<-ret_ev h3];simp only[castL_rfl];obtain⟨B,cc,vss,hue,p2,p3⟩:=src_ref h hu hg hob;have hp:=hu.1.2 hg;have hor:=h.obj l;obtain⟨A0,cap0,real,hα⟩:=arr_co h hob;rw[hob,hα]at hp hor;obtain⟨g1,A',rfl,g3,g4⟩:=hp;have hvl:=look_length full vw g1;obtain⟨c1,c2,c3,c4,c5⟩:=hor;have hcr:cap0=real:=c3 rfl;subst hcr;simp only[Value.slice.injEq]at hue;obtain⟨rfl,_,hcc⟩:=hue;have hfl:uss.flatten.length=ys.length*e.k.sz:=by rw[flatten_length e.k.sz uss (al_len q2),q2.length]
  have hfl2:vss.flatten.length=vlen full vw*e.k.sz:=by rw[flatten_length e.k.sz vss (al_len p2),<-p2.length,hvl]
  have hset:∀(co':CO),(∀m,(S.up (.set l (g+1) (.arr true false e.k (look full vw++ys)))).heap m=if m=l then(g+1, .arr true false e.k (look full vw++ys))else S.heap m):=by
   intro _ m;simp only[St.up,beq_iff]
   by_cases hm:m=l<;>simp [hm]
  by_cases hin:vlen full vw+ys.length<=cap0 - voff vw
  ·by_cases hc0:cap0 - voff vw=0
   ·
    have hn:ys.length=0:=by omega
    have hye:ys=[]:=List.eq_nil_of_length_eq_zero hn;subst hye;have hl0:look full vw=[]:=List.eq_nil_of_length_eq_zero (by rw[hvl];omega);have hrun:=hgo (run_append_zero (P:=E.P) (w:=w) (ty:=o.type) htd hk hed (A:=A) (A':=A') (sLen:=vlen full vw) (sCap:=cap0 - voff vw) (c:=cp) (by omega));rw[hl0];have hi:=h.one l (g+1) (.arr true false e.k ([]++[])) (.arr none 0 0) (w':=w) (fun b i v hc _=>⟨hc,rfl⟩) h.fr
     (fun b i hf=>by simp [fp]at hf) (fun b i hf=>by simp [fp]at hf) (fun hm=>by cases hm) (by omega) (by omega) (fun M' Mb' H' α' k1 k2 hgo=>⟨by simp,by simp,fun _=>rfl,fun _=>rfl,fun b oo hA=>by simp at hA⟩)
    refine Does.val (α':=fun m=>if m=l then .arr none 0 0 else α m) hrun ?_;rw[ups_cons];refine hi.dput hd (vr_c0 ⟨⟨?_,fun _=> ?_⟩,rfl⟩)
    ·rw[up_set_heap];exact Nat.le_refl _
    ·rw[up_set_heap];simp only[if_true];have h00:vlen full vw=0:=by omega
     rw[h00,hc0];exact refAt_none ⟨A',rfl,Nat.le_refl _,fun hc=>by simp at hc⟩
   ·obtain⟨b,oo,hA,rfl⟩:=g4 (by omega);subst hA;obtain⟨c6,c7⟩:=c5 b oo rfl;have hmul:(voff vw+vlen full vw+ys.length)*e.k.sz<=cap0*e.k.sz:=Nat.mul_le_mul_right _ (by omega);rw[Nat.add_mul,Nat.add_mul]at hmul;have hone:=al_one q2;have hcell:∀j,j<uss.flatten.length->(∃v,w.cell? ⟨b,oo+voff vw*e.k.sz+vlen full vw*e.k.sz+j,none⟩=some v)/\w.frozen? ⟨b,oo+voff vw*e.k.sz+vlen full vw*e.k.sz+j,none⟩=false:=by
     intro j hj;have:=c7 rfl (voff vw*e.k.sz+vlen full vw*e.k.sz+j) (by omega);rwa [show oo+(voff vw*e.k.sz+vlen full vw*e.k.sz+j)=oo+voff vw*e.k.sz+vlen full vw*e.k.sz+j by omega]at this
    have hsome:∀j,j<uss.flatten.length->(w.cell? ⟨b,oo+voff vw*e.k.sz+vlen full vw*e.k.sz+j,none⟩).isSome=true:=fun j hj=>by
     obtain⟨⟨v,hv⟩,_⟩:=hcell j hj;rw[hv];rfl
    have hrun:=hgo (run_append_in (P:=E.P) (w:=w) (ty:=o.type) htd hk hed (b:=b) (oo:=oo+voff vw*e.k.sz) (sLen:=vlen full vw) (sCap:=cap0 - voff vw) (m:=ys.length) (c:=cp) (A:=A) hfl
     q3 hone hin hsome (fun j hj=>(hcell j hj).2))
    have hfp:∀i,i<uss.flatten.length->fp (S.heap l).2 (α l) b (oo+voff vw*e.k.sz+vlen full vw*e.k.sz+i):=fun i hi=>by
     rw[hob,hα];exact⟨rfl,by omega,by omega⟩
    have hi:=h.one l (g+1) (.arr true false e.k (look full vw++ys)) (.arr (some (b,oo+voff vw*e.k.sz)) (cap0 - voff vw) (cap0 - voff vw)) (w':=w.setCells b (oo+voff vw*e.k.sz+vlen full vw*e.k.sz) uss.flatten)
     (fun b' i' v' hc hn=>by
      refine⟨?_,World.frozen?_setCells _ _ _ _ _⟩;rw[setCells_out]
      ·exact hc
      ·rintro ⟨rfl,w1,w2⟩
       have:=hfp (i' - (oo+voff vw*e.k.sz+vlen full vw*e.k.sz)) (by omega);rw[show oo+voff vw*e.k.sz+vlen full vw*e.k.sz+(i' - (oo+voff vw*e.k.sz+vlen full vw*e.k.sz))=i' by omega]at this;exact hn this) (own_fr h hfp)
     (fun b' i' hf=>by
      left
      rw[hob,hα];obtain⟨rfl,f1,f2⟩:=hf;refine⟨rfl,by omega,?_⟩;rw[Nat.sub_mul]at f2;have:voff vw*e.k.sz<=cap0*e.k.sz:=Nat.mul_le_mul_right _ (by have:=c1.1;omega);omega) (fun b' i' _ _ hm=>by rw[hob]at hm;cases hm) (fun hm=>by cases hm) (by omega) (fun he=>by omega)
     (fun M' Mb' H' α' k1 k2 hgo'=>by
      refine⟨⟨by rw[List.length_append,hvl];omega,fun h=>by cases h⟩,Nat.le_refl _,fun _=>rfl,(fun h=>by cases h),fun b2 o2 hA2=> ?_⟩;cases hA2;refine⟨fun i y hy=> ?_,fun _ j hj=> ?_⟩
      ·rw[List.getElem?_append]at hy;split at hy
       ·obtain⟨hx1,hx2⟩:=look_get full vw hy;obtain⟨es,e1,e2,_⟩:=c6 _ y hx1;refine⟨es,e1.mono k1,fun j v hj=> ?_,(fun hz=>by cases hz)⟩;have hjl:j<e.k.sz:=by rw[<-e1.len];exact(List.getElem?_eq_some_iff.1 hj).1
        have hmul2:(i+1)*e.k.sz<=vlen full vw*e.k.sz:=Nat.mul_le_mul_right _ (by omega);rw[Nat.add_mul,Nat.one_mul]at hmul2;rw[setCells_out _ _ _ _ (fun hq=>by omega)];have:=e2 j v hj;rw[Nat.add_mul]at this;rwa [show oo+(voff vw*e.k.sz+i*e.k.sz)+j=oo+voff vw*e.k.sz+i*e.k.sz+j by omega]at this
       ·rename_i hlt;rw[hvl]at hy hlt;obtain⟨es,e1,e2⟩:=flat_elems q2 (cs:=fun j=>(w.setCells b (oo+voff vw*e.k.sz+vlen full vw*e.k.sz) uss.flatten).cell? ⟨b,oo+voff vw*e.k.sz+vlen full vw*e.k.sz+j,none⟩) (fun j v hj=>setCells_get w b _ _ hsome hj) (i - vlen full vw) y hy;refine⟨es,e1.mono k1,fun j v hj=> ?_,(fun hz=>by cases hz)⟩;have:=e2 j v hj;have hmul3:(i - vlen full vw)*e.k.sz+vlen full vw*e.k.sz=i*e.k.sz:=by rw[<-Nat.add_mul];congr 1;omega
        rwa [show oo+voff vw*e.k.sz+vlen full vw*e.k.sz+((i - vlen full vw)*e.k.sz+j)=oo+voff vw*e.k.sz+i*e.k.sz+j by omega]at this
      ·rw[Nat.sub_mul]at hj;have hle:voff vw*e.k.sz<=cap0*e.k.sz:=Nat.mul_le_mul_right _ (by omega);obtain⟨⟨v,s1⟩,s2⟩:=c7 rfl (voff vw*e.k.sz+j) (by omega);rw[show oo+(voff vw*e.k.sz+j)=oo+voff vw*e.k.sz+j by omega]at s1 s2;exact⟨(setCells_like b uss.flatten _ w).some s1,by rw[World.frozen?_setCells];exact s2⟩)
    refine Does.val (α':=fun m=>if m=l then .arr (some (b,oo+voff vw*e.k.sz)) (cap0 - voff vw) (cap0 - voff vw)else α m) hrun ?_;rw[ups_cons];refine hi.dput hd (vr_c0 ⟨⟨?_,fun _=> ?_⟩,rfl⟩)
    ·rw[up_set_heap];exact Nat.le_refl _
    ·rw[up_set_heap];simp only[if_true];exact refAt_none ⟨some ⟨b,oo+voff vw*e.k.sz,none⟩,by rw[List.length_append,hvl],by rw[List.length_append,hvl];exact hin,fun _=>⟨_,_,rfl,rfl⟩⟩
  ·
   have hn:ys.length≠0:=by omega
   obtain⟨b',o',rfl,q4⟩:=q3 hn;obtain⟨cap,cs,r1,r2,r3,r4⟩:=run_append_new (P:=E.P) (w:=w) (ty:=o.type) htd hk hed hz (A:=some ⟨b',o',none⟩) (A':=A') (sLen:=vlen full vw) (sCap:=cap0 - voff vw) (m:=ys.length) (c:=cp) (olds:=vss.flatten) (news:=uss.flatten) hfl hfl2
    (fun h0=>p3 (by rw[hvl];exact h0)) (fun hA=>by
     by_cases hc0:cap0 - voff vw=0
     ·exact⟨by omega,hc0⟩
     ·obtain⟨b,oo,_,hA'⟩:=g4 (by omega);rw[hA]at hA';cases hA') hn ⟨b',o',rfl,q4⟩ (by omega) hby hb0
   have hap:Al (fun y es=>RdC w (MM E.M0 S.heap α) e.k es y) (look full vw++ys) (vss++uss):=p2.append q2;have hcell2:∀i,(w.drew.alloc (.cells cs d.el)).cell? ⟨w.heap.size,i,none⟩=cs[i]? :=fun i=>World.cell?_alloc_new w.drew cs d.el i
   have hi:=h.one l (g+1) (.arr true false e.k (look full vw++ys)) (.arr (some (w.heap.size,0)) cap cap) (w':=w.drew.alloc (.cells cs d.el))
    (fun b i v hc _=>by
     have hlt:=World.block_lt_of_cell? _ _ hc;have:=Go.RowKit.Below.heap_alloc w.drew (.cells cs d.el) b hlt;simp only[World.cell?,World.frozen?]at hc ⊢;rw[this];exact⟨hc,rfl⟩)
    (Fr.trans h.fr ⟨rfl,rfl,rfl,by simp,fun b hlt=> .inl (Go.RowKit.Below.heap_alloc w.drew _ b hlt)⟩)
    (fun b i hf=>by
     obtain⟨rfl,_⟩:=hf;exact .inr (Nat.le_refl _))
    (fun b i hf hlt=>by
     obtain⟨rfl,_⟩:=hf;omega) (fun hm=>by cases hm) (by omega) (fun he=>by omega)
    (fun M' Mb' H' α' k1 k2 hgo'=>by
     refine⟨⟨by rw[List.length_append,hvl];exact r1,fun h=>by cases h⟩,Nat.le_refl _,fun _=>rfl,(by simp),fun b2 o2 hA2=> ?_⟩;cases hA2;refine⟨fun i y hy=> ?_,fun _ j hj=>⟨⟨cs[j]'(by omega),?_⟩,?_⟩⟩
     ·obtain⟨es,e1,e2⟩:=flat_elems hap (cs:=fun j=>cs[j]?) (fun j v hj=>r3 j v (by simpa using hj)) i y hy;refine⟨es,e1.mono k1,fun j v hj=> ?_,(fun hz=>by cases hz)⟩;rw[hcell2,Nat.zero_add];exact e2 j v hj
     ·rw[hcell2,Nat.zero_add];exact Array.getElem?_eq_getElem _
     ·exact World.frozen?_alloc_new w.drew cs d.el _)
   refine Does.val (α':=fun m=>if m=l then .arr (some (w.heap.size,0)) cap cap else α m) (hgo r4) ?_;rw[ups_cons];refine hi.dput hd (vr_c0 ⟨⟨?_,fun _=> ?_⟩,rfl⟩)
   ·rw[up_set_heap];exact Nat.le_refl _
   ·rw[up_set_heap];simp only[if_true];exact refAt_none ⟨some ⟨w.heap.size,0,none⟩,by rw[List.length_append,hvl],by rw[List.length_append,hvl];exact r1,fun _=>⟨_,_,rfl,rfl⟩⟩
end
end Go.Cm
