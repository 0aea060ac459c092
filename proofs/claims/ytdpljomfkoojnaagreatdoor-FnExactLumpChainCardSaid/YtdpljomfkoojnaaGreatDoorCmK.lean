import Derived.Test.YtdpljomfkoojnaaGreatDoorCmJ
set_option linter.unusedVariables false
namespace Go.Cm
theorem al_enc1 {R:A0->Value->Prop} {ag:Bool} {cs:List A0} {us:List Value} (h:Al R cs us) (h1:ag=false->cs.length=1):VR R (.one ag cs) (enc ag us):=⟨us,rfl,h,h1⟩
theorem sub_rd {w:World} {M:Nat->Nat->Prop} :∀(k:Kd) (d:Nat) (x:k.Ty) {k':Kd} {x':k'.Ty} {es:List Value},sub k d x=some ⟨k',x'⟩->RdC w M k es x->
  ∃e1 e2 e3,es=e1++e2++e3/\e1.length=d/\RdC w M k' e2 x'
 | .st f,d,x,k',x',es,h,hr=>sub_rd f d x h hr
 | .pair ka kb,d,x,k',x',es,h,hr=>by
  obtain⟨c1,c2,rfl,h1,h2⟩:=hr;simp only[sub]at h;split at h
  ·obtain⟨e1,e2,e3,q1,q2,q3⟩:=sub_rd ka d x.1 h h1;exact⟨e1,e2,e3++c2,by simp [q1],q2,q3⟩
  ·rename_i hd;obtain⟨e1,e2,e3,q1,q2,q3⟩:=sub_rd kb (d - ka.sz) x.2 h h2;exact⟨c1++e1,e2,e3,by simp [q1],by simp [q2,h1.len];omega,q3⟩
 | .int k,0,x,k',x',es,h,hr=>by simp only[sub,Option.some.injEq,Sigma.mk.injEq]at h;obtain⟨rfl,h⟩:=h;cases h;exact⟨[],es,[],by simp,rfl,hr⟩
 | .bool,0,x,k',x',es,h,hr=>by simp only[sub,Option.some.injEq,Sigma.mk.injEq]at h;obtain⟨rfl,h⟩:=h;cases h;exact⟨[],es,[],by simp,rfl,hr⟩
 | .str,0,x,k',x',es,h,hr=>by simp only[sub,Option.some.injEq,Sigma.mk.injEq]at h;obtain⟨rfl,h⟩:=h;cases h;exact⟨[],es,[],by simp,rfl,hr⟩
 | .sl k,0,x,k',x',es,h,hr=>by simp only[sub,Option.some.injEq,Sigma.mk.injEq]at h;obtain⟨rfl,h⟩:=h;cases h;exact⟨[],es,[],by simp,rfl,hr⟩
 | .pt k,0,x,k',x',es,h,hr=>by simp only[sub,Option.some.injEq,Sigma.mk.injEq]at h;obtain⟨rfl,h⟩:=h;cases h;exact⟨[],es,[],by simp,rfl,hr⟩
 | .sv k,0,x,k',x',es,h,hr=>by simp only[sub,Option.some.injEq,Sigma.mk.injEq]at h;obtain⟨rfl,h⟩:=h;cases h;exact⟨[],es,[],by simp,rfl,hr⟩
 | .er,0,x,k',x',es,h,hr=>by simp only[sub,Option.some.injEq,Sigma.mk.injEq]at h;obtain⟨rfl,h⟩:=h;cases h;exact⟨[],es,[],by simp,rfl,hr⟩
 | .int k,d+1,x,k',x',es,h,hr=>by simp [sub]at h
 | .bool,d+1,x,k',x',es,h,hr=>by simp [sub]at h
 | .str,d+1,x,k',x',es,h,hr=>by simp [sub]at h
 | .sl k,d+1,x,k',x',es,h,hr=>by simp [sub]at h
 | .pt k,d+1,x,k',x',es,h,hr=>by simp [sub]at h
 | .er,d+1,x,k',x',es,h,hr=>by simp [sub]at h
 | .sv k,d+1,x,k',x',es,h,hr=>by simp [sub]at h
section
variable {cx:Cx} {E:En} {S:St} {α:Nat->CO} {a:Act} {w:World} {o:Oper} {us:List Up}
theorem cellsAt_ev (h:Inv E S α a w) {c:A0} {u:Value} (hc:R0 E S.heap α w c u) {β:Type} {κ:List A0->Cm β} {r:β} (hs:(cellsAt c κ).ev S=some r):
  ∃b o vs cs,u= .pointer (some ⟨b,o,none⟩)/\Al (R0 E S.heap α w) cs vs/\Cells0 w b o vs/\(κ cs).ev S=some r:=by
 cases c with
 |pt fl k x=>
  obtain⟨b,o,es,h1,h2,h3⟩:=hc;simp at h1;exact⟨b,o,es,_,h1,unpack_rd h2,fun j v hj=>(h3 j v hj).1,hs⟩
 |pm k x=>
  obtain⟨b,o,es,h1,h2,h3⟩:=hc;exact⟨b,o,es,_,h1,unpack_rd (fl:=false) h2,fun j v hj=>(h3 j v hj).1,hs⟩
 |pv l g j=>
  simp only[cellsAt,Cm.ev]at hs;split at hs
  ·rename_i hg;split at hs
   ·rename_i cs ho;have hor:=h.obj l;have hp:=hc.1.2 hg;rw[ho]at hor hp;cases hα:α l with
    |vars b=>
     rw[hα]at hor hp;obtain⟨vs,h1,h2⟩:=hor;refine⟨b,j,vs.drop j,cs.drop j,hp,h1.drop j,fun i v hi=> ?_,hs⟩;exact(h2 (j+i) v (by simpa using hi)).1
    |no=>rw[hα]at hor;exact hor.elim
    |rows A c r ms=>rw[hα]at hor;exact hor.elim
    |arr A c r=>rw[hα]at hor;exact hor.elim
   ·exact(fail_ev hs).elim
  ·exact(fail_ev hs).elim
 |pa l g i j=>
  simp only[cellsAt,Cm.ev]at hs;split at hs
  ·rename_i hg;split at hs
   ·rename_i mine fz k full ho;have hor:=h.obj l;have hp:=hc.1.2 hg;rw[ho]at hor hp;cases hα:α l with
    |arr A cap real=>
     rw[hα]at hor hp;obtain⟨hi,b,oo,hA,hu⟩:=hp;obtain⟨es,h1,h2,_⟩:=(hor.2.2.2.2 b oo hA).1 i (full.getD i k.dflt) (by simp [hi]);refine⟨b,oo+i*k.sz+j,es.drop j,_,hu,(unpack_rd (fl:=false) (x:=full.getD i k.dflt) h1).drop j,fun q v hq=> ?_,hs⟩;have:=h2 (j+q) v (by simpa using hq);rwa [<-Nat.add_assoc]at this
    |no=>rw[hα]at hor;exact hor.elim
    |rows A c r ms=>rw[hα]at hor;exact hor.elim
    |vars b=>rw[hα]at hor;exact hor.elim
   ·rename_i mine k rg hdr inn ho;have hp:=hc.1.2 hg;obtain⟨A,cap,real,ms,hα,R⟩:=rows_co h ho;rw[ho,hα]at hp;obtain⟨hi,b,oo,hA,hu⟩:=hp;have hget:hdr[i]? =some (hdr.getD i (0,0)):=by simp [hi]
    obtain⟨m,hm,hle⟩:=R.hd i _ hget;obtain⟨u',hcl,hs',hs2⟩:=(R.cel b oo hA).1 i _ m hget hm;have hml:(hdr.getD i (0,0)).1<inn.length:=by rw[<-R.ml];exact(List.getElem?_eq_some_iff.1 hm).1
    have hM:=R.mem _ inn[(hdr.getD i (0,0)).1] m (by simp) hm;have hrow:R0 E S.heap α w (.row l g rg (hdr.getD i (0,0)).1 (some (0,(hdr.getD i (0,0)).2))) u':=by
     refine⟨⟨hc.1.1,fun _=> ?_⟩,?_⟩
     ·rw[ho,hα];refine⟨Nat.le_refl _,fun _=>⟨m,inn[(hdr.getD i (0,0)).1],hm,by simp,?_,?_⟩⟩
      ·show 0+_<=_;rw[Nat.zero_add,<-hM.1];exact hle
      ·show SlAt m.1 (0*k.sz) _ (m.2.2 - 0) u';rw[Nat.zero_mul];exact hs'
     ·obtain⟨A',rfl,_⟩:=hs';rfl
    have done:∀ {c':A0},R0 E S.heap α w c' u'->(κ ([c'].drop j)).ev S=some r->∃b o vs cs,u= .pointer (some ⟨b,o,none⟩)/\Al (R0 E S.heap α w) cs vs/\Cells0 w b o vs/\(κ cs).ev S=some r:=by
     intro c' hc' hs;refine⟨b,oo+i+j,[u'].drop j,_,hu,(Al.cons hc' .nil).drop j,fun q v hq=> ?_,hs⟩;rw[List.getElem?_drop]at hq;have hj:j+q=0:=by
      rcases Nat.eq_zero_or_pos (j+q)with e|e
      ·exact e
      ·rw[List.getElem?_eq_none (by simp;omega)]at hq;cases hq
     rw[hj]at hq;cases hq;rw[show oo+i+j+q=oo+i by omega];exact hcl
    split at hs
    ·rename_i hst;simp only[Cm.ev]at hs;split at hs
     ·rename_i h0;have h0:=of_decide_eq_true h0;have hl0:(inn[(hdr.getD i (0,0)).1]).length=0:=by
       have:inn.getD (hdr.getD i (0,0)).1 []=inn[(hdr.getD i (0,0)).1]:=by
        rw[List.getD_eq_getElem?_getD,List.getElem?_eq_getElem hml];rfl
       rw[<-this];exact h0
      have hv:R0 E S.heap α w (.v (.slice none 0 0)) u':=hs2 hst (hM.1.trans hl0);exact done hv hs
     ·exact done hrow hs
    ·exact done hrow hs
   ·exact(fail_ev hs).elim
  ·exact(fail_ev hs).elim
 |pr l g rg i e j=>
  simp only[cellsAt,Cm.ev]at hs;split at hs
  ·rename_i hg;split at hs
   ·rename_i mine k rg' hdr inn ho;split at hs
    case isFalse=>exact(fail_ev hs).elim
    rename_i hrg;have hp:=hc.1.2 hg;obtain⟨A,cap,real,ms,hα,R⟩:=rows_co h ho;rw[ho,hα]at hp;obtain⟨m,xs,b,oo,h1,h2,h3,h4,h5⟩:=hp.2 hrg;have hM:=R.mem i xs m h2 h1;have hxs:inn.getD i []=xs:=by simp [h2]
    rw[hxs]at hs;obtain⟨es,e1,e2⟩:=(hM.2.2.2 b oo h4).1 e (xs.getD e k.dflt) (by simp [h3]);refine⟨b,oo+e*k.sz+j,es.drop j,_,h5,(unpack_rd (fl:=false) (x:=xs.getD e k.dflt) e1).drop j,fun q v hq=> ?_,hs⟩;have:=e2 (j+q) v (by simpa using hq);rwa [<-Nat.add_assoc]at this
   ·exact(fail_ev hs).elim
  ·exact(fail_ev hs).elim
 |_=>exact(fail_ev hs).elim
theorem step_load (ht:TdsOk cx E.P) (h:Inv E S α a w) (hd:dstOk E.n o) {t:Nat} {x:Operand} (ho:o.op= .load t x)
  (hs:((opnd x).bind fun va=>sg va fun a=>sLoad cx o t a).ev S=some us):Does E S a w o us:=by
 obtain⟨v,h1,h2⟩:=bind_ev hs;obtain⟨c,rfl,h3⟩:=sg_ev h2;unfold sLoad at h3;obtain⟨d,hf,h4⟩:=tdOf_ev h3;obtain⟨b,oo,vs,cs,e1,e2,e3,e4⟩:=cellsAt_ev h (opnd_c h h1) h4;split at e4
 ·rename_i hl;rw[<-ret_ev e4];have hvl:(vs.take d.k.sz).length=d.k.sz:=by rw[<-(e2.take _).length,hl]
  have hr:=run_loadVar (ht t d hf) (w:=w) (b:=b) (o:=oo) (us:=vs.take d.k.sz) hvl (fun j u hj=>e3 j u (by
   rw[List.getElem?_take]at hj;split at hj
   ·exact hj
   ·cases hj))
  refine Does.pure h hd (u:=enc d.ag (vs.take d.k.sz)) ?_ (al_enc1 (e2.take _) (fun hg=>by rw[hl];exact(ht t d hf).one hg));simp [execOp,ho,e1,Instr.loadAt,Instr.sureAddr,hr]
 ·exact(fail_ev e4).elim
theorem step_fieldAddr (ht:TdsOk cx E.P) (h:Inv E S α a w) (hd:dstOk E.n o) {s f:Nat} {x:Operand} (ho:o.op= .fieldAddr s x f)
  (hs:((opnd x).bind fun vx=>sg vx fun a=>tdOf cx s fun d=>if d.ag=true then(match d.fs[f]? with
   |some (off,ft)=>tdOf cx ft fun _=>(match a with
     | .pt fl k x=>(match sub k off x with|some ⟨k',x'⟩=> .ret (dput o (.one false [.pt fl k' x']))|none=> .fail)
     | .pm k x=>(match sub k off x with|some ⟨k',x'⟩=> .ret (dput o (.one false [.pm k' x']))|none=> .fail)
     | .pv l g j=> .obj l fun ob=>if ob.1=g then(match ob.2 with| .vars _=> .ret (dput o (.one false [.pv l g (j+off)]))|_=> .fail)else .fail
     | .pa l g i j=> .obj l fun ob=>if ob.1=g then(match ob.2 with| .arr _ _ _ _=> .ret (dput o (.one false [.pa l g i (j+off)]))|_=> .fail)else .fail
     | .pr l g rg i e j=> .obj l fun ob=>if ob.1=g then(match ob.2 with| .rows _ _ rg' _ _=>if rg'=rg then .ret (dput o (.one false [.pr l g rg i e (j+off)]))else .fail|_=> .fail)else .fail
     |_=> .fail)
   |none=> .fail)else .fail).ev S=some us):Does E S a w o us:=by
 obtain⟨v,h1,h2⟩:=bind_ev hs;obtain⟨c,rfl,h3⟩:=sg_ev h2;obtain⟨d,hf,h4⟩:=tdOf_ev h3;clear h3 h2 hs;split at h4
 case isFalse=>exact(fail_ev h4).elim
 rename_i hag;cases hq:d.fs[f]? with
 |none=>rw[hq]at h4;exact(fail_ev h4).elim
 |some q=>
  obtain⟨off,ft⟩:=q;rw[hq]at h4;obtain⟨fd,hff,h5⟩:=tdOf_ev h4;have hu:=(ht s d hf).und;have hc:=opnd_c h h1;have hplace:∀b oo,(Instr.fieldAt s (.pointer (some ⟨b,oo,none⟩)) f).run E.P w= .ok (.pointer (some ⟨b,oo+off,none⟩)) w:=by
   intro b oo;cases hk:d.k<;>rw[hk]at hu
   case st g=>
    obtain⟨fs,hu1,hu2,_⟩:=hu;have hfs:(fs.toList.map (fun f=>(f.offset,f.type)))[f]? =some (off,ft):=by rw[hu2];exact hq
    simp only[List.getElem?_map,Option.map_eq_some_iff,Array.getElem?_toList]at hfs;obtain⟨fi,hfi,hfe⟩:=hfs;simp only[Prod.mk.injEq]at hfe;obtain⟨rfl,rfl⟩:=hfe;have hsz:=(ht fi.type fd hff).size w;have hp:=Kd.sz_pos fd.k;simp [Instr.fieldAt,run_underlying hu1,hfi,Instr.sureAddr,fieldPlace,hsz,Nat.ne_of_gt hp,add_plain]
   all_goals
    have hg:=(ht s d hf).ag;rw[hag,hk]at hg;simp [isSt]at hg
  cases c with
  |pt fl k y=>
   dsimp only at h5;split at h5
   ·rename_i k' x' hsub;rw[<-ret_ev h5];obtain⟨b,oo,es,e1,e2,e3⟩:=hc;simp at e1;obtain⟨p1,p2,p3,q1,q2,q3⟩:=sub_rd k off y hsub e2;refine Does.pure h hd (u:= .pointer (some ⟨b,oo+off,none⟩)) ?_ (vr_c0 ⟨b,oo+off,p2,rfl,q3,fun j v hj=> ?_⟩)
    ·simp [execOp,ho,e1,hplace]
    ·have:=e3 (off+j) v (by
      rw[q1,List.append_assoc,<-q2,List.getElem?_append_right (by omega)];rw[List.getElem?_append_left (by have:=(List.getElem?_eq_some_iff.1 hj).1;omega)];simpa using hj)
     rwa [<-Nat.add_assoc]at this
   ·exact(fail_ev h5).elim
  |pm k y=>
   dsimp only at h5;split at h5
   ·rename_i k' x' hsub;rw[<-ret_ev h5];obtain⟨b,oo,es,e1,e2,e3⟩:=hc;obtain⟨p1,p2,p3,q1,q2,q3⟩:=sub_rd k off y hsub e2;refine Does.pure h hd (u:= .pointer (some ⟨b,oo+off,none⟩)) ?_ (vr_c0 ⟨b,oo+off,p2,rfl,q3,fun j v hj=> ?_⟩)
    ·simp [execOp,ho,e1,hplace]
    ·have:=e3 (off+j) v (by
      rw[q1,List.append_assoc,<-q2,List.getElem?_append_right (by omega)];rw[List.getElem?_append_left (by have:=(List.getElem?_eq_some_iff.1 hj).1;omega)];simpa using hj)
     rwa [<-Nat.add_assoc]at this
   ·exact(fail_ev h5).elim
  |pv l g j=>
   simp only[Cm.ev]at h5;split at h5
   ·rename_i hg;split at h5
    ·rename_i cs hob;simp only[Cm.ev,Option.some.injEq]at h5;rw[<-h5];have hp:=hc.1.2 hg;have hor:=h.obj l;rw[hob]at hp hor;cases hα:α l with
     |vars b=>
      rw[hα]at hp;have hp':a.eval x= .pointer (some ⟨b,j,none⟩):=hp;refine Does.pure h hd (u:= .pointer (some ⟨b,j+off,none⟩)) (by simp [execOp,ho,hp',hplace]) (vr_c0 ⟨⟨hc.1.1,fun _=> ?_⟩,rfl⟩);rw[hob,hα];rfl
     |no=>rw[hα]at hor;exact hor.elim
     |rows A c r ms=>rw[hα]at hor;exact hor.elim
     |arr A c r=>rw[hα]at hor;exact hor.elim
    ·exact(fail_ev h5).elim
   ·exact(fail_ev h5).elim
  |pa l g i j=>
   simp only[Cm.ev]at h5;split at h5
   ·rename_i hg;split at h5
    ·rename_i m fz k full hob;simp only[Cm.ev,Option.some.injEq]at h5;rw[<-h5];have hp:=hc.1.2 hg;have hor:=h.obj l;rw[hob]at hp hor;cases hα:α l with
     |arr A cap real=>
      rw[hα]at hp;obtain⟨hi,b,oo,hA,hp'⟩:=hp;refine Does.pure h hd (u:= .pointer (some ⟨b,oo+i*k.sz+j+off,none⟩)) (by simp [execOp,ho,hp',hplace]) (vr_c0 ⟨⟨hc.1.1,fun _=> ?_⟩,rfl⟩);rw[hob,hα];exact⟨hi,b,oo,hA,by rw[Nat.add_assoc _ j off]⟩
     |no=>rw[hα]at hor;exact hor.elim
     |rows A c r ms=>rw[hα]at hor;exact hor.elim
     |vars b=>rw[hα]at hor;exact hor.elim
    ·exact(fail_ev h5).elim
   ·exact(fail_ev h5).elim
  |pr l g rg i e j=>
   simp only[Cm.ev]at h5;split at h5
   ·rename_i hg;split at h5
    ·rename_i mine k rg' hdr inn hob;split at h5
     case isFalse=>exact(fail_ev h5).elim
     rename_i hrg;simp only[Cm.ev,Option.some.injEq]at h5;rw[<-h5];have hp:=hc.1.2 hg;obtain⟨A,cap,real,ms,hα,R⟩:=rows_co h hob;rw[hob,hα]at hp;obtain⟨m,xs,b,oo,g1,g2,g3,g4,g5⟩:=hp.2 hrg;refine Does.pure h hd (u:= .pointer (some ⟨b,oo+e*k.sz+j+off,none⟩)) (by simp [execOp,ho,g5,hplace]) (vr_c0 ⟨⟨hc.1.1,fun _=> ?_⟩,rfl⟩);rw[hob,hα];exact⟨hp.1,fun _=>⟨m,xs,b,oo,g1,g2,g3,g4,by rw[Nat.add_assoc _ j off]⟩⟩
    ·exact(fail_ev h5).elim
   ·exact(fail_ev h5).elim
  |_=>exact(fail_ev h5).elim
end
end Go.Cm
