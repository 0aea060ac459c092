import Derived.Test.YtdpljomfkoojnaaGreatDoorCmK
set_option linter.unusedVariables false
namespace Go.Cm
section
variable {cx:Cx} {E:En} {S:St} {α:Nat->CO} {a:Act} {w:World} {o:Oper} {us:List Up}
theorem step_index (h:Inv E S α a w) (hd:dstOk E.n o) (ht:TdsOk cx E.P) {t:Nat} {x i:Operand} (ho:o.op= .index t x i)
  (hs:((opnd x).bind fun vx=>(opnd i).bind fun vi=>sgv vx fun a=>sgi vi fun i=>tdOf cx t fun d=>match d.k,a with
   | .str, .string s=> .test (decide (0<=i)) (.test (decide (i<(s.size:Int))) (.ret (dput o (vl (.int .u8 (byteAt s i))))) .fail) .fail
   |_,_=> .fail).ev S=some us):Does E S a w o us:=by
 obtain⟨vx,h1,h2⟩:=bind_ev hs;obtain⟨vi,h3,h4⟩:=bind_ev h2;obtain⟨c,rfl,h5⟩:=sgv_ev h4;obtain⟨n,rfl,h6⟩:=sgi_ev h5;obtain⟨d,hf,h7⟩:=tdOf_ev h6;have e1:=opnd_v h h1;have e2:=opnd_v h h3;have hu:=(ht t d hf).und;clear hs h2 h4 h5 h6;cases hk:d.k<;>rw[hk]at h7 hu<;>try exact(fail_ev h7).elim
 cases c<;>try exact(fail_ev h7).elim
 rename_i s;obtain⟨h8,h9⟩:=need_ev h7;obtain⟨h10,h11⟩:=need_ev h9;rw[<-ret_ev h11];refine Does.pure h hd (u:= .int .u8 (byteAt s n)) ?_ (vr_vl rfl);have hlt:n.toNat<s.size:=by omega
 have hb:s[n.toNat]? =some s[n.toNat]:=by simp [hlt]
 have hv:byteAt s n=(s[n.toNat].toNat:Int):=by
  unfold byteAt;have hlt':n.toNat<s.data.size:=hlt;have:s.data.toList.getD n.toNat 0=s[n.toNat]:=by
   rw[List.getD_eq_getElem?_getD,Array.getElem?_toList,Array.getElem?_eq_getElem hlt'];rfl
  rw[this]
 simp [execOp,ho,e1,e2,Instr.index,asIntOf,run_underlying hu,h8,hb,hv]
theorem elOf_ev {β:Type} {t:Nat} {k:Td->Cm β} {r:β} (h:(elOf cx t k).ev S=some r):∃d k' e,find t cx.td=some d/\d.k= .sl k'/\find d.el cx.td=some e/\(k e).ev S=some r:=by
 unfold elOf at h;obtain⟨d,hf,h1⟩:=tdOf_ev h;cases hk:d.k<;>rw[hk]at h1<;>try exact(fail_ev h1).elim
 obtain⟨e,hfe,h2⟩:=tdOf_ev h1;exact⟨d,_,e,hf,hk,hfe,h2⟩
theorem step_indexAddr (h:Inv E S α a w) (hd:dstOk E.n o) (ht:TdsOk cx E.P) {t:Nat} {x i:Operand} (ho:o.op= .indexAddr t x i)
  (hs:((opnd x).bind fun vx=>(opnd i).bind fun vi=>sg vx fun a=>sgi vi fun i=>sIndexAddr cx o t a i).ev S=some us):Does E S a w o us:=by
 obtain⟨vx,h1,h2⟩:=bind_ev hs;obtain⟨vi,h3,h4⟩:=bind_ev h2;obtain⟨c,rfl,h5⟩:=sg_ev h4;obtain⟨n,rfl,h6⟩:=sgi_ev h5;unfold sIndexAddr at h6;obtain⟨d,k0,e,hf,hk0,hfe,h7⟩:=elOf_ev h6;have e1:=opnd_c h h1;have e2:=opnd_v h h3;have hgo:∀ {b oo len cap:Nat},a.eval x= .slice (some ⟨b,oo,none⟩) len cap->0<=n->n<(len:Int)->
   (execOp a.eval o).run E.P w= .ok (.value (.pointer (some ⟨b,oo+n.toNat*e.k.sz,none⟩))) w:=by
  intro b oo len cap hx h0 hn;simp [execOp,ho,hx,e2,run_indexAt (ht t d hf) hk0 (ht _ e hfe) h0 hn]
 clear hs h2 h4 h5 h6;cases c<;>try exact(fail_ev h7).elim
 case sl fl k xs=>
  dsimp only at h7;split at h7
  ·rename_i hsz;obtain⟨h8,h9⟩:=need_ev h7;obtain⟨h10,h11⟩:=need_ev h9;rw[<-ret_ev h11];obtain⟨A,c,q1,q2,q3⟩:=e1;simp at q1;have hlt:n.toNat<xs.length:=by omega
   obtain⟨b,oo,rfl,q4⟩:=q3 (by omega);obtain⟨es,q5,q6⟩:=q4 n.toNat (xs.getD n.toNat k.dflt) (by simp [hlt]);have:=hgo q1 h8 h10;rw[hsz]at this;exact Does.pure h hd this (vr_c0 ⟨b,_,es,rfl,q5,q6⟩)
  ·exact(fail_ev h7).elim
 case sv fl k xs n'=>
  dsimp only at h7;split at h7
  ·rename_i hsz;obtain⟨h8,h9⟩:=need_ev h7;obtain⟨h10,h11⟩:=need_ev h9;rw[<-ret_ev h11];obtain⟨A,c,q1,⟨q2,q2'⟩,q3⟩:=e1;simp at q1;have hlt:n.toNat<xs.length:=by omega
   obtain⟨b,oo,rfl,q4⟩:=q3 (by omega);obtain⟨es,q5,q6⟩:=q4 n.toNat (xs.getD n.toNat k.dflt) (by simp [hlt]);have:=hgo q1 h8 h10;rw[hsz]at this;exact Does.pure h hd this (vr_c0 ⟨b,_,es,rfl,q5,q6⟩)
  ·exact(fail_ev h7).elim
 case ref l g vw=>
  simp only[Cm.ev]at h7;split at h7
  ·rename_i hg;split at h7
   ·rename_i m fz k full hob;split at h7
    ·rename_i hsz;obtain⟨h8,h9⟩:=need_ev h7;obtain⟨h10,h11⟩:=need_ev h9;rw[<-ret_ev h11];have hp:=e1.1.2 hg;have hor:=h.obj l;rw[hob]at hp hor;cases hα:α l with
     |arr A cap real=>
      rw[hα]at hp hor;obtain⟨p1,A',p2,p3,p4⟩:=hp;obtain⟨b,oo,hA,rfl⟩:=p4 (by omega);have:=hgo p2 h8 h10;rw[hsz]at this;refine Does.pure h hd this (vr_c0 ⟨⟨e1.1.1,fun _=> ?_⟩,rfl⟩);rw[hob,hα];refine⟨by omega,b,oo,hA,?_⟩;rw[Nat.add_mul];simp [Nat.add_assoc]
     |no=>rw[hα]at hor;exact hor.elim
     |rows A c r ms=>rw[hα]at hor;exact hor.elim
     |vars b=>rw[hα]at hor;exact hor.elim
    ·exact(fail_ev h7).elim
   ·rename_i m k rg hdr inn hob;split at h7
    ·rename_i hsz;obtain⟨h8,h9⟩:=need_ev h7;obtain⟨h10,h11⟩:=need_ev h9;rw[<-ret_ev h11];have hp:=e1.1.2 hg;obtain⟨A,cap,real,ms,hα,R⟩:=rows_co h hob;rw[hob,hα]at hp;obtain⟨p1,A',p2,p3,p4⟩:=hp;obtain⟨b,oo,hA,rfl⟩:=p4 (by omega);have:=hgo p2 h8 h10;rw[hsz,Nat.mul_one]at this;refine Does.pure h hd this (vr_c0 ⟨⟨e1.1.1,fun _=> ?_⟩,rfl⟩);rw[hob,hα];refine⟨by omega,b,oo,hA,?_⟩;simp [Nat.add_assoc]
    ·exact(fail_ev h7).elim
   ·exact(fail_ev h7).elim
  ·exact(fail_ev h7).elim
 case row l g rg q vw=>
  simp only[Cm.ev]at h7;split at h7
  ·rename_i hg;split at h7
   ·rename_i m k rg' hdr inn hob;split at h7
    ·rename_i hsz;obtain⟨hrg,hsz⟩:=hsz;obtain⟨h8,h9⟩:=need_ev h7;obtain⟨h10,h11⟩:=need_ev h9;rw[<-ret_ev h11];have hp:=e1.1.2 hg;obtain⟨A,cap,real,ms,hα,R⟩:=rows_co h hob;rw[hob,hα]at hp;obtain⟨mm,xs,g1,g2,p1,A',p2,p3,p4⟩:=hp.2 hrg;have hxs:inn.getD q []=xs:=by simp [g2]
     rw[hxs]at h10;obtain⟨b,oo,hA,rfl⟩:=p4 (by omega);have:=hgo p2 h8 h10;rw[hsz]at this;refine Does.pure h hd this (vr_c0 ⟨⟨e1.1.1,fun _=> ?_⟩,rfl⟩);rw[hob,hα];refine⟨hp.1,fun _=>⟨mm,xs,b,oo,g1,g2,by omega,hA,?_⟩⟩;rw[Nat.add_mul];simp [Nat.add_assoc]
    ·exact(fail_ev h7).elim
   ·exact(fail_ev h7).elim
  ·exact(fail_ev h7).elim
theorem bound_ev {β:Type} {x:Option AV} {dd:Int} {k:Int->Cm β} {r:β} (h:(bound x dd k).ev S=some r):
  ∃n,((x=none/\n=dd)\/x=some (.one false [.v (.int .i64 n)]))/\(k n).ev S=some r:=by
 unfold bound at h;split at h
 ·exact⟨dd, .inl ⟨rfl,rfl⟩,h⟩
 ·obtain⟨c,rfl,h1⟩:=sgi_ev h;exact⟨c, .inr rfl,h1⟩
theorem oopnd_bnd (h:Inv E S α a w) {x:Option Operand} {v:Option AV} (hx:(oopnd x).ev S=some v) {n:Int} {dd:Nat} (hn:(v=none/\n=(dd:Int))\/v=some (.one false [.v (.int .i64 n)])) (h0:0<=n):
  Bnd dd (x.map a.eval) n.toNat:=by
 cases x with
 |none=>
  simp [oopnd,Cm.ev]at hx;rcases hn with ⟨_,hn⟩|hn
  ·show n.toNat=dd;omega
  ·rw[<-hx]at hn;cases hn
 |some y=>
  simp only[oopnd]at hx;obtain⟨u,h1,h2⟩:=bind_ev hx;have:=ret_ev h2;subst this;rcases hn with ⟨hn,_⟩|hn
  ·cases hn
  ·cases hn;refine⟨.i64,?_⟩;rw[opnd_v h h1,Int.toNat_of_nonneg h0]
theorem seen_get {β:Type} (xs:List β) (l n:Nat) {i:Nat} {x:β} (h:(seen xs l n)[i]? =some x):xs[l+i]? =some x/\i<n:=by
 simp only[seen,List.getElem?_take,List.getElem?_drop]at h;split at h
 ·exact⟨h,by assumption⟩
 ·cases h
theorem step_slice (h:Inv E S α a w) (hd:dstOk E.n o) (ht:TdsOk cx E.P) {t:Nat} {x:Operand} {lo hi:Option Operand} (ho:o.op= .slice t x lo hi none)
  (hs:((opnd x).bind fun vx=>(oopnd lo).bind fun l=>(oopnd hi).bind fun h=>sg vx fun a=>sSlice cx o t a l h).ev S=some us):Does E S a w o us:=by
 obtain⟨vx,h1,h2⟩:=bind_ev hs;obtain⟨vl,h3,h4⟩:=bind_ev h2;obtain⟨vh,h5,h6⟩:=bind_ev h4;obtain⟨c,rfl,h7⟩:=sg_ev h6;have e1:=opnd_c h h1;clear hs h2 h4 h6;unfold sSlice at h7;cases c<;>try exact(fail_ev h7).elim
 case v y=>
  cases y<;>try exact(fail_ev h7).elim
  rename_i s;obtain⟨d,hf,h8⟩:=tdOf_ev h7;split at h8
  ·rename_i hk;obtain⟨nh,hnh,h9⟩:=bound_ev h8;obtain⟨nl,hnl,h10⟩:=bound_ev h9;obtain⟨b1,h11⟩:=need_ev h10;obtain⟨b2,h12⟩:=need_ev h11;obtain⟨b3,h13⟩:=need_ev h12;obtain⟨b4,h14⟩:=need_ev h13;rw[<-ret_ev h14];have r1:=oopnd_bnd h h3 (dd:=0) (by simpa using hnl) b3;have r2:=oopnd_bnd h h5 hnh b1;have hx:a.eval x= .string s:=e1;refine Does.pure h hd (u:= .string (s.extract nl.toNat nh.toNat)) ?_ (vr_vl rfl);simp [execOp,ho,hx,run_sliceStr (ht t d hf) hk r1 r2 (by omega) (by omega)]
  ·exact(fail_ev h8).elim
 case sl fl k xs=>
  obtain⟨d,k0,e,hf,hk0,hfe,h8⟩:=elOf_ev h7;split at h8
  ·rename_i hsz;obtain⟨nh,hnh,h9⟩:=bound_ev h8;obtain⟨nl,hnl,h10⟩:=bound_ev h9;obtain⟨b1,h11⟩:=need_ev h10;obtain⟨b2,h12⟩:=need_ev h11;obtain⟨b3,h13⟩:=need_ev h12;obtain⟨b4,h14⟩:=need_ev h13;rw[<-ret_ev h14];have r1:=oopnd_bnd h h3 (dd:=0) (by simpa using hnl) b3;have r2:=oopnd_bnd h h5 hnh b1;obtain⟨A,c,q1,q2,q3⟩:=e1;simp at q1;have hrun:=run_sliceAt (P:=E.P) (w:=w) (ht t d hf) hk0 (ht _ e hfe) (A:=A) (cap:=c) r1 r2 (by omega) (by omega);refine Does.pure h hd (by simp [execOp,ho,q1,hrun];rfl) (vr_c0 ?_);have hlen:(seen xs nl.toNat (nh.toNat - nl.toNat)).length=nh.toNat - nl.toNat:=by simp [seen];omega
   refine⟨_,_,by rw[hlen],by rw[hlen];omega,fun hn=> ?_⟩;rw[hlen]at hn;obtain⟨b,oo,rfl,q4⟩:=q3 (by omega);rw[if_neg (by omega)];refine⟨b,oo+nl.toNat*e.k.sz,by simp [add_plain],fun i y hy=> ?_⟩;obtain⟨g1,g2⟩:=seen_get _ _ _ hy;obtain⟨es,g3,g4⟩:=q4 _ y g1;refine⟨es,g3,?_⟩;rw[hsz];rwa [Nat.add_mul,<-Nat.add_assoc]at g4
  ·exact(fail_ev h8).elim
 case sv fl k xs n'=>
  obtain⟨d,k0,e,hf,hk0,hfe,h8⟩:=elOf_ev h7;split at h8
  ·rename_i hsz;obtain⟨nh,hnh,h9⟩:=bound_ev h8;obtain⟨nl,hnl,h10⟩:=bound_ev h9;obtain⟨b1,h11⟩:=need_ev h10;obtain⟨b2,h12⟩:=need_ev h11;obtain⟨b3,h13⟩:=need_ev h12;obtain⟨b4,h14⟩:=need_ev h13;rw[<-ret_ev h14];have r1:=oopnd_bnd h h3 (dd:=0) (by simpa using hnl) b3;have r2:=oopnd_bnd h h5 hnh b1;obtain⟨A,c,q1,⟨q2,q2'⟩,q3⟩:=e1;simp at q1;have hrun:=run_sliceAt (P:=E.P) (w:=w) (ht t d hf) hk0 (ht _ e hfe) (A:=A) (cap:=c) r1 r2 (by omega) (by omega);refine Does.pure h hd (by simp [execOp,ho,q1,hrun];rfl) (vr_c0 ?_);have hlen:(seen xs nl.toNat (nh.toNat - nl.toNat)).length=nh.toNat - nl.toNat:=by simp [seen];omega
   refine⟨_,_,by rw[hlen],by rw[hlen];omega,fun hn=> ?_⟩;rw[hlen]at hn;obtain⟨b,oo,rfl,q4⟩:=q3 (by omega);rw[if_neg (by omega)];refine⟨b,oo+nl.toNat*e.k.sz,by simp [add_plain],fun i y hy=> ?_⟩;obtain⟨g1,g2⟩:=seen_get _ _ _ hy;obtain⟨es,g3,g4⟩:=q4 _ y g1;refine⟨es,g3,?_⟩;rw[hsz];rwa [Nat.add_mul,<-Nat.add_assoc]at g4
  ·exact(fail_ev h8).elim
 case ref l g vw=>
  simp only[Cm.ev]at h7;split at h7
  ·rename_i hg;split at h7
   ·rename_i m fz k full hob;obtain⟨d,k0,e,hf,hk0,hfe,h8⟩:=elOf_ev h7;split at h8
    ·rename_i hsz;obtain⟨nh,hnh,h9⟩:=bound_ev h8;obtain⟨nl,hnl,h10⟩:=bound_ev h9;obtain⟨b1,h11⟩:=need_ev h10;obtain⟨b2,h12⟩:=need_ev h11;obtain⟨b3,h13⟩:=need_ev h12;obtain⟨b4,h14⟩:=need_ev h13;rw[<-ret_ev h14];have r1:=oopnd_bnd h h3 (dd:=0) (by simpa using hnl) b3;have r2:=oopnd_bnd h h5 hnh b1;have hp:=e1.1.2 hg;have hor:=h.obj l;rw[hob]at hp hor;cases hα:α l with
     |arr A cap real=>
      rw[hα]at hp hor;obtain⟨p1,A',p2,p3,p4⟩:=hp;obtain⟨c1,c2,_⟩:=hor;have hrun:=run_sliceAt (P:=E.P) (w:=w) (ht t d hf) hk0 (ht _ e hfe) (A:=A') (cap:=real - voff vw) r1 r2 (by omega) (by omega);rw[Nat.sub_sub]at hrun;refine Does.pure h hd (by simp [execOp,ho,p2,hrun];rfl) (vr_c0 ⟨⟨e1.1.1,fun _=> ?_⟩,rfl⟩);rw[hob,hα];refine⟨?_,_,rfl,?_,fun hc=> ?_⟩
      ·show voff vw+nl.toNat+(nh.toNat - nl.toNat)<=full.length;omega
      ·show nh.toNat - nl.toNat<=real - (voff vw+nl.toNat);omega
      ·change 0<real - (voff vw+nl.toNat)at hc
       obtain⟨b,oo,hA,rfl⟩:=p4 (by omega);refine⟨b,oo,hA,?_⟩;rw[if_neg (by omega)];show some ((⟨b,oo+voff vw*k.sz,none⟩:Addr).add (nl.toNat*e.k.sz))=some ⟨b,oo+(voff vw+nl.toNat)*k.sz,none⟩;rw[add_plain,hsz,Nat.add_mul,Nat.add_assoc]
     |no=>rw[hα]at hor;exact hor.elim
     |rows A c r ms=>rw[hα]at hor;exact hor.elim
     |vars b=>rw[hα]at hor;exact hor.elim
    ·exact(fail_ev h8).elim
   ·rename_i m k rg hdr inn hob;obtain⟨d,k0,e,hf,hk0,hfe,h8⟩:=elOf_ev h7;split at h8
    ·rename_i hsz;obtain⟨nh,hnh,h9⟩:=bound_ev h8;obtain⟨nl,hnl,h10⟩:=bound_ev h9;obtain⟨b1,h11⟩:=need_ev h10;obtain⟨b2,h12⟩:=need_ev h11;obtain⟨b3,h13⟩:=need_ev h12;obtain⟨b4,h14⟩:=need_ev h13;rw[<-ret_ev h14];have r1:=oopnd_bnd h h3 (dd:=0) (by simpa using hnl) b3;have r2:=oopnd_bnd h h5 hnh b1;have hp:=e1.1.2 hg;obtain⟨A,cap,real,ms,hα,R⟩:=rows_co h hob;rw[hob,hα]at hp;obtain⟨p1,A',p2,p3,p4⟩:=hp;have c1:=R.len;have c2:=R.cr;have hrun:=run_sliceAt (P:=E.P) (w:=w) (ht t d hf) hk0 (ht _ e hfe) (A:=A') (cap:=real - voff vw) r1 r2 (by omega) (by omega);rw[Nat.sub_sub]at hrun;refine Does.pure h hd (by simp [execOp,ho,p2,hrun];rfl) (vr_c0 ⟨⟨e1.1.1,fun _=> ?_⟩,rfl⟩);rw[hob,hα];refine⟨?_,_,rfl,?_,fun hc=> ?_⟩
     ·show voff vw+nl.toNat+(nh.toNat - nl.toNat)<=hdr.length;omega
     ·show nh.toNat - nl.toNat<=real - (voff vw+nl.toNat);omega
     ·change 0<real - (voff vw+nl.toNat)at hc
      obtain⟨b,oo,hA,rfl⟩:=p4 (by omega);refine⟨b,oo,hA,?_⟩;rw[if_neg (by omega)];show some ((⟨b,oo+voff vw,none⟩:Addr).add (nl.toNat*e.k.sz))=some ⟨b,oo+(voff vw+nl.toNat),none⟩;rw[add_plain,hsz,Nat.mul_one,Nat.add_assoc]
    ·exact(fail_ev h8).elim
   ·exact(fail_ev h7).elim
  ·exact(fail_ev h7).elim
 case row l g rg q vw=>
  simp only[Cm.ev]at h7;split at h7
  ·rename_i hg;split at h7
   ·rename_i m k rg' hdr inn hob;obtain⟨d,k0,e,hf,hk0,hfe,h8⟩:=elOf_ev h7;split at h8
    ·rename_i hsz;obtain⟨hrg,hsz⟩:=hsz;obtain⟨nh,hnh,h9⟩:=bound_ev h8;obtain⟨nl,hnl,h10⟩:=bound_ev h9;obtain⟨b1,h11⟩:=need_ev h10;obtain⟨b2,h12⟩:=need_ev h11;obtain⟨b3,h13⟩:=need_ev h12;obtain⟨b4,h14⟩:=need_ev h13;rw[<-ret_ev h14];have r1:=oopnd_bnd h h3 (dd:=0) (by simpa using hnl) b3;have r2:=oopnd_bnd h h5 hnh b1;have hp:=e1.1.2 hg;obtain⟨A,cap,real,ms,hα,R⟩:=rows_co h hob;rw[hob,hα]at hp;obtain⟨mm,xs,g1,g2,p1,A',p2,p3,p4⟩:=hp.2 hrg;have hxs:inn.getD q []=xs:=by simp [g2]
     rw[hxs]at b2 r2;have hM:=R.mem q xs mm g2 g1;have hM2:=hM.2.1;have hrun:=run_sliceAt (P:=E.P) (w:=w) (ht t d hf) hk0 (ht _ e hfe) (A:=A') (cap:=mm.2.2 - voff vw) r1 r2 (by omega) (by omega);rw[Nat.sub_sub]at hrun;refine Does.pure h hd (by simp [execOp,ho,p2,hrun];rfl) (vr_c0 ⟨⟨e1.1.1,fun _=> ?_⟩,rfl⟩);rw[hob,hα];refine⟨hp.1,fun _=>⟨mm,xs,g1,g2,?_,_,rfl,?_,fun hc=> ?_⟩⟩
     ·show voff vw+nl.toNat+(nh.toNat - nl.toNat)<=xs.length;omega
     ·show nh.toNat - nl.toNat<=mm.2.2 - (voff vw+nl.toNat);omega
     ·change 0<mm.2.2 - (voff vw+nl.toNat)at hc
      obtain⟨b,oo,hA,rfl⟩:=p4 (by omega);refine⟨b,oo,hA,?_⟩;rw[if_neg (by omega)];show some ((⟨b,oo+voff vw*k.sz,none⟩:Addr).add (nl.toNat*e.k.sz))=some ⟨b,oo+(voff vw+nl.toNat)*k.sz,none⟩;rw[add_plain,hsz,Nat.add_mul,Nat.add_assoc]
    ·exact(fail_ev h8).elim
   ·exact(fail_ev h7).elim
  ·exact(fail_ev h7).elim
theorem opnds_sound (h:Inv E S α a w):∀ {xs:List Operand} {vs:List AV},(opnds xs).ev S=some vs->Al (VR (R0 E S.heap α w)) vs (xs.map a.eval)
 | [],vs,hx=>by
  rw[<-ret_ev hx];exact .nil
 |x::xs,vs,hx=>by
  simp only[opnds]at hx;obtain⟨v,h1,h2⟩:=bind_ev hx;obtain⟨us,h3,h4⟩:=bind_ev h2;rw[<-ret_ev h4];exact .cons (opnd_sound h h1) (opnds_sound h h3)
theorem args_map (a:Act) (xs:Array Operand):xs.map a.eval=(xs.toList.map a.eval).toArray:=by
 apply Array.ext';rw[Array.toList_map]
theorem args1 (h:Inv E S α a w) {xs:Array Operand} {v:A0} (hv:Al (VR (R0 E S.heap α w)) [.one false [v]] (xs.toList.map a.eval)):∃u,xs.map a.eval= #[u]/\R0 E S.heap α w v u:=by
 rw[args_map];generalize xs.toList.map a.eval=l at hv;cases hv with
 |cons h1 h2=>cases h2;exact⟨_,rfl,vr_c0_inv h1⟩
theorem args2 (h:Inv E S α a w) {xs:Array Operand} {v v':A0} (hv:Al (VR (R0 E S.heap α w)) [.one false [v], .one false [v']] (xs.toList.map a.eval)):
  ∃u u',xs.map a.eval= #[u,u']/\R0 E S.heap α w v u/\R0 E S.heap α w v' u':=by
 rw[args_map];generalize xs.toList.map a.eval=l at hv;cases hv with
 |cons h1 h2=>
  cases h2 with
  |cons h3 h4=>cases h4;exact⟨_,_,rfl,vr_c0_inv h1,vr_c0_inv h3⟩
theorem step_len (h:Inv E S α a w) (hd:dstOk E.n o) (ht:TdsOk cx E.P) {c:Call} (ho:o.op= .call c) (hc:c.callee= .builtin .len) {t:Nat} (hat:c.argTypes[0]? =some t) {v:A0}
  (hv:Al (VR (R0 E S.heap α w)) [.one false [v]] (c.args.toList.map a.eval))
  (hs:(sLen cx o t v).ev S=some us):Does E S a w o us:=by
 obtain⟨u,hmap,hu⟩:=args1 h hv;unfold sLen at hs;obtain⟨d,hf,h1⟩:=tdOf_ev hs;have hun:=(ht _ d hf).und;clear hs;have hgo:∀ {r:Value},(Builtin.len_ c.argTypes o.type #[u]).run E.P w= .ok r w->(execOp a.eval o).run E.P w= .ok (.value r) w:=by
  intro r hr;simp [execOp,ho,resolve,hc,hmap,invoke,builtin,hr]
 cases hk:d.k<;>rw[hk]at h1 hun<;>try exact(fail_ev h1).elim
 case str=>
  cases v<;>try exact(fail_ev h1).elim
  rename_i y;cases y<;>try exact(fail_ev h1).elim
  rename_i s;rw[<-ret_ev h1];have hu':u= .string s:=hu;subst hu';refine Does.pure h hd (u:= .int .i64 (s.size:Int)) (hgo ?_) (vr_vl rfl);simp [Builtin.len_,hat,run_underlying hun,goInt]
 case sl k=>
  cases v<;>try exact(fail_ev h1).elim
  case v y=>
   cases y<;>try exact(fail_ev h1).elim
   rename_i A n cc;cases A<;>try exact(fail_ev h1).elim
   cases n<;>try exact(fail_ev h1).elim
   cases cc<;>try exact(fail_ev h1).elim
   rw[<-ret_ev h1];have hu':u= .slice none 0 0:=hu;subst hu';refine Does.pure h hd (u:= .int .i64 0) (hgo ?_) (vr_vl rfl);simp [Builtin.len_,hat,run_underlying hun,goInt]
  case sl fl k' xs=>
   rw[<-ret_ev h1];obtain⟨A,cc,q1,_⟩:=hu;simp at q1;subst q1;refine Does.pure h hd (u:= .int .i64 (xs.length:Int)) (hgo ?_) (vr_vl rfl);simp [Builtin.len_,hat,run_underlying hun,goInt]
  case sv fl k' xs n'=>
   rw[<-ret_ev h1];obtain⟨A,cc,q1,_⟩:=hu;simp at q1;subst q1;refine Does.pure h hd (u:= .int .i64 (n':Int)) (hgo ?_) (vr_vl rfl);simp [Builtin.len_,hat,run_underlying hun,goInt]
  case ref l g vw=>
   simp only[Cm.ev]at h1;split at h1
   ·rename_i hg;split at h1
    ·rename_i m fz k' full hob;simp only[Cm.ev,Option.some.injEq]at h1;rw[<-h1];have hp:=hu.1.2 hg;have hor:=h.obj l;rw[hob]at hp hor;cases hα:α l with
     |arr A cap real=>
      rw[hα]at hp;obtain⟨p1,A',rfl,p3,p4⟩:=hp;refine Does.pure h hd (u:= .int .i64 (vlen full vw:Int)) (hgo ?_) (vr_vl rfl);simp [Builtin.len_,hat,run_underlying hun,goInt]
     |no=>rw[hα]at hor;exact hor.elim
     |rows A c r ms=>rw[hα]at hor;exact hor.elim
     |vars b=>rw[hα]at hor;exact hor.elim
    ·rename_i m k' rg hdr inn hob;simp only[Cm.ev,Option.some.injEq]at h1;rw[<-h1];have hp:=hu.1.2 hg;obtain⟨A,cap,real,ms,hα,R⟩:=rows_co h hob;rw[hob,hα]at hp;obtain⟨p1,A',rfl,p3,p4⟩:=hp;refine Does.pure h hd (u:= .int .i64 (vlen hdr vw:Int)) (hgo ?_) (vr_vl rfl);simp [Builtin.len_,hat,run_underlying hun,goInt]
    ·exact(fail_ev h1).elim
   ·exact(fail_ev h1).elim
  case row l g rg q vw=>
   simp only[Cm.ev]at h1;split at h1
   ·rename_i hg;split at h1
    ·rename_i m k' rg' hdr inn hob;split at h1
     case isFalse=>exact(fail_ev h1).elim
     rename_i hrg;simp only[Cm.ev,Option.some.injEq]at h1;rw[<-h1];have hp:=hu.1.2 hg;obtain⟨A,cap,real,ms,hα,R⟩:=rows_co h hob;rw[hob,hα]at hp;obtain⟨mm,xs,g1,g2,p1,A',rfl,p3,p4⟩:=hp.2 hrg;have hxs:inn.getD q []=xs:=by simp [g2]
     rw[hxs];refine Does.pure h hd (u:= .int .i64 (vlen xs vw:Int)) (hgo ?_) (vr_vl rfl);simp [Builtin.len_,hat,run_underlying hun,goInt]
    ·exact(fail_ev h1).elim
   ·exact(fail_ev h1).elim
end
end Go.Cm
