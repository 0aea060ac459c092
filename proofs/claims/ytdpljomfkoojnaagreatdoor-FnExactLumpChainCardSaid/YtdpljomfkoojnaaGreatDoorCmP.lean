import Derived.Test.YtdpljomfkoojnaaGreatDoorCmO
set_option linter.unusedVariables false
namespace Go.Cm
theorem fold_set (off:Nat):∀(us:List Value) (k:Nat) (cs:Array Value),off+k+us.length<=cs.size->
  ((us.zipIdx k).foldl (fun(cs:Array Value) (p:Value×Nat)=>cs.setIfInBounds (off+p.2) p.1) cs).toList=splice cs.toList us (off+k)
 | [],k,cs,h=>by simp [splice]
 |u::us,k,cs,h=>by
  simp only[List.length_cons]at h;rw[List.zipIdx_cons,List.foldl_cons,fold_set off us (k+1) _ (by simp;omega)];apply List.ext_getElem?;intro i;rw[splice_get _ _ _ _ (by simp;omega),splice_get _ _ _ _ (by simp;omega)];simp only[List.length_cons,Array.toList_setIfInBounds]
  by_cases h1:i=off+k
  ·subst h1;rw[if_neg (by omega),if_pos (by omega),Nat.sub_self,List.getElem?_set_self (by simp;omega)];rfl
  ·rw[List.getElem?_set_ne (by omega)]
   by_cases h2:off+k+1<=i/\i<off+k+1+us.length
   ·rw[if_pos (by omega),if_pos (by omega),show i - (off+k)=(i - (off+(k+1)))+1 by omega];rfl
   ·rw[if_neg (by omega),if_neg (by omega)]
theorem fill_run {place:Nat->Option (Nat×Nat)} :∀ {ps:List (Nat×Value)} {qs:List (Nat×List Value)} {cells:Array Value},
  Al (fun(p:Nat×Value) (q:Nat×List Value)=>place p.1=some (q.1,q.2.length)/\p.2.cells=q.2.toArray/\q.1+q.2.length<=cells.size) ps qs->
  ∃cells',Instr.fill place cells ps=some cells'/\cells'.toList=qs.foldl (fun cs q=>splice cs q.2 q.1) cells.toList
 |_,_,cells, .nil=>⟨cells,rfl,rfl⟩
 |(i,v)::ps,(off,us)::qs,cells, .cons h t=>by
  obtain⟨h1,h2,h3⟩:=h;simp only at h1 h2 h3;have hsz:v.cells.size=us.length:=by rw[h2];simp
  have hf:=fold_set off us 0 cells (by omega);have hfold:v.cells.zipIdx.foldl (fun cs (c,j)=>cs.setIfInBounds (off+j) c) cells=(us.zipIdx 0).foldl (fun(cs:Array Value) (p:Value×Nat)=>cs.setIfInBounds (off+p.2) p.1) cells:=by
   rw[h2];simp
  have hsize:((us.zipIdx 0).foldl (fun(cs:Array Value) (p:Value×Nat)=>cs.setIfInBounds (off+p.2) p.1) cells).size=cells.size:=by
   rw[<-Array.length_toList,hf,splice_length _ _ _ (by simp;omega),Array.length_toList]
  obtain⟨cells',e1,e2⟩:=fill_run (place:=place) (cells:=(us.zipIdx 0).foldl (fun(cs:Array Value) (p:Value×Nat)=>cs.setIfInBounds (off+p.2) p.1) cells) (t.mono (fun a b h=>by rw[hsize];exact h));refine⟨cells',?_,?_⟩
  ·rw[Instr.fill];simp only[h1];rw[if_neg (by simp [hsz];omega),hfold,e1]
  ·rw[e2,hf];simp
theorem splice_mid {α:Type} (pre rest us:List α) (h:us.length<=rest.length):splice (pre++rest) us pre.length=pre++us++rest.drop us.length:=by
 unfold splice;rw[List.take_left,List.drop_append];simp [List.drop_eq_nil_of_le]
theorem fold_flatten (sz:Nat):∀(uss:List (List Value)) (m:Nat) (pre rest:List Value),(∀us∈uss,us.length=sz)->pre.length=m*sz->rest.length=uss.length*sz->
  ((uss.zipIdx m).map (fun p=>(p.2*sz,p.1))).foldl (fun cs q=>splice cs q.2 q.1) (pre++rest)=pre++uss.flatten
 | [],m,pre,rest,_,_,hr=>by
  have:rest=[]:=List.eq_nil_of_length_eq_zero (by simpa using hr);simp [this]
 |us::uss,m,pre,rest,hs,hp,hr=>by
  have hus:=hs us (by simp);simp only[List.length_cons,Nat.add_mul,Nat.one_mul]at hr;rw[List.zipIdx_cons,List.map_cons,List.foldl_cons];simp only;rw[<-hp,splice_mid _ _ _ (by omega)];rw[fold_flatten sz uss (m+1) (pre++us) (rest.drop us.length) (fun u hu=>hs u (by simp [hu])) (by simp [hp,hus,Nat.add_mul]) (by simp;omega)];simp
theorem flatten_get (sz:Nat):∀(uss:List (List Value)) (i j:Nat) (us:List Value),(∀us∈uss,us.length=sz)->uss[i]? =some us->j<sz->uss.flatten[i*sz+j]? =us[j]?
 | [],i,j,us,_,h,_=>by simp at h
 |u::uss,0,j,us,hs,h,hj=>by
  simp at h;subst h;rw[List.flatten_cons,Nat.zero_mul,Nat.zero_add,List.getElem?_append_left (by rw[hs u (by simp)];exact hj)]
 |u::uss,i+1,j,us,hs,h,hj=>by
  have hu:=hs u (by simp);rw[List.flatten_cons,List.getElem?_append_right (by rw[hu,Nat.add_mul];omega),hu];rw[show(i+1)*sz+j - sz=i*sz+j by rw[Nat.add_mul];omega];exact flatten_get sz uss i j us (fun v hv=>hs v (by simp [hv])) (by simpa using h) hj
theorem flatten_length (sz:Nat):∀(uss:List (List Value)),(∀us∈uss,us.length=sz)->uss.flatten.length=uss.length*sz
 | [],_=>by simp
 |u::uss,hs=>by
  rw[List.flatten_cons,List.length_append,hs u (by simp),flatten_length sz uss (fun v hv=>hs v (by simp [hv])),List.length_cons,Nat.add_mul];omega
section
variable {cx:Cx} {E:En} {S:St} {α:Nat->CO} {a:Act} {w:World} {o:Oper} {us:List Up}
theorem parts_sound (h:Inv E S α a w):∀ {ps:List (Nat×Operand)} {vs:List (Nat×AV)},(parts ps).ev S=some vs->
  Al (fun(v:Nat×AV) (p:Nat×Operand)=>v.1=p.1/\VR (R0 E S.heap α w) v.2 (a.eval p.2)) vs ps
 | [],vs,hx=>by
  rw[<-ret_ev hx];exact .nil
 |(i,x)::ps,vs,hx=>by
  simp only[parts]at hx;obtain⟨v,h1,h2⟩:=bind_ev hx;obtain⟨us,h3,h4⟩:=bind_ev h2;rw[<-ret_ev h4];exact .cons ⟨rfl,opnd_sound h h1⟩ (parts_sound h h3)
theorem cells_val (h:Inv E S α a w) {v:AV} {u:Value} (hv:VR (R0 E S.heap α w) v u) (hl:(cellsOf v).length≠0) (hok:okCells (cellsOf v)=true):
  ∃ws,u.cells=ws.toArray/\Al (R0 E S.heap α w) (cellsOf v) ws/\∀x∈ws,x.oneCell'=true:=by
 obtain⟨ag,ws,hv1,hv2,hv3,hv4⟩:=cellsOf_al hv hl;have hone:=okc h hv3 hok;refine⟨ws,?_,hv3,hone⟩;rw[hv2];cases ag with
 |true=>rfl
 |false=>
  match ws,hv4 rfl with
  | [u],_=>
   have:=hone u (by simp);cases u<;>first|rfl|(simp [Value.oneCell']at this)
theorem fillC_sound (ht:TdsOk cx E.P) (h:Inv E S α a w) {fs:List (Nat×Nat)} {place:Nat->Option (Nat×Nat)} (hpl:∀i off ft d,fs[i]? =some (off,ft)->find ft cx.td=some d->place i=some (off,d.k.sz)):
  ∀ {vs:List (Nat×AV)} {ps:List (Nat×Operand)} {cs cs':List A0} {ws:Array Value},Al (fun(v:Nat×AV) (p:Nat×Operand)=>v.1=p.1/\VR (R0 E S.heap α w) v.2 (a.eval p.2)) vs ps->
   (fillC cx fs cs vs).ev S=some cs'->Al (R0 E S.heap α w) cs ws.toList->
   ∃ws',Instr.fill place ws (ps.map fun(i,x)=>(i,a.eval x))=some ws'/\Al (R0 E S.heap α w) cs' ws'.toList
 |_,_,cs,cs',ws, .nil,hf,hw=>⟨ws,rfl,by rw[<-ret_ev hf];exact hw⟩
 |(i,v)::vs,(i',x)::ps,cs,cs',ws, .cons hv t,hf,hw=>by
  obtain⟨rfl,hv⟩:=hv;simp only at hv;unfold fillC at hf;split at hf
  case h_2=>exact(fail_ev hf).elim
  rename_i off ft hfs;obtain⟨d,hd,hf⟩:=tdOf_ev hf;split at hf
  case isFalse=>exact(fail_ev hf).elim
  rename_i hc;obtain⟨c1,c2,c3⟩:=hc;have hpos:=Kd.sz_pos d.k;obtain⟨us,u1,u2,u3⟩:=cells_val h hv (by omega) c3;have hul:us.length=d.k.sz:=by rw[<-u2.length,c1]
  have hwl:cs.length=ws.size:=by rw[hw.length,Array.length_toList]
  obtain⟨cells',e1,e2⟩:=fill_run (place:=place) (ps:=[(i,a.eval x)]) (qs:=[(off,us)]) (cells:=ws) (.cons ⟨by rw[hul];exact hpl i off ft d hfs hd,u1,by simp only;omega⟩ .nil);have hstep:∀rest,Instr.fill place ws ((i,a.eval x)::rest)=Instr.fill place cells' rest:=by
   intro rest;have hq:=hpl i off ft d hfs hd;simp only[Instr.fill,hq]at e1 ⊢;split at e1
   ·cases e1
   ·rename_i hn;rw[if_neg hn];cases e1;rfl
  obtain⟨ws',f1,f2⟩:=fillC_sound ht h hpl t hf (ws:=cells') (by rw[e2];exact hw.splice u2 off);exact⟨ws',by rw[List.map_cons,hstep];exact f1,f2⟩
theorem step_build (ht:TdsOk cx E.P) (h:Inv E S α a w) (hd:dstOk E.n o) {t:Nat} {ps:Array (Nat×Operand)} (ho:o.op= .build t ps)
  (hs:(tdOf cx t fun d=>if d.ag=true then(parts ps.toList).bind fun vs=>(match d.k.zero with
   |some cs=>(fillC cx d.fs (cs.map .v) vs).bind fun cs=> .ret (dput o (.one true cs))
   |none=> .fail)else .fail).ev S=some us):Does E S a w o us:=by
 obtain⟨d,hf,h1⟩:=tdOf_ev hs;split at h1
 case isFalse=>exact(fail_ev h1).elim
 rename_i hag;obtain⟨vs,h2,h3⟩:=bind_ev h1;split at h3
 case h_2=>exact(fail_ev h3).elim
 rename_i zc hz;obtain⟨cs',h4,h5⟩:=bind_ev h3;rw[<-ret_ev h5];clear hs h1 h3 h5;obtain⟨i,i1,i2,i3,i4⟩:=(ht t d hf).info;obtain⟨z,z1,z2⟩:=i4 zc hz;have hu:=(ht t d hf).und;have hg:=(ht t d hf).ag;rw[hag]at hg;cases hk:d.k<;>rw[hk]at hu hg<;>simp only[isSt,reduceCtorEq]at hg
 rename_i g;obtain⟨fs,hu1,hu2,places,hp⟩:=hu;have hzv:Al (R0 E S.heap α w) (zc.map .v) zc:=by
  have:∀l:List Value,Al (R0 E S.heap α w) (l.map .v) l:=by
   intro l
   induction l with
   |nil=>exact .nil
   |cons x l ih=>exact .cons rfl ih
  exact this zc
 have hget:∀ {fl:List Field} {pl:List (Nat×Nat)},fl.mapM (fun f=>(E.P.info? f.type).map fun i=>(f.offset,i.size))=some pl->∀(n off ft:Nat) (i:TypeInfo),(fl.map (fun f=>(f.offset,f.type)))[n]? =some (off,ft)->E.P.info? ft=some i->pl[n]? =some (off,i.size):=by
  intro fl
  induction fl with
  |nil=>intro pl _ n off ft i h1;simp at h1
  |cons f fl ih=>
   intro pl hpl n off ft i h1 h2;simp only[List.mapM_cons,Option.bind_eq_bind,Option.pure_def,Option.bind_eq_some_iff,Option.map_eq_some_iff,Option.some.injEq]at hpl;obtain⟨q,⟨i',hi',rfl⟩,rest,hr,rfl⟩:=hpl;cases n with
   |zero=>
    simp at h1;obtain⟨rfl,rfl⟩:=h1;rw[h2]at hi';cases hi';rfl
   |succ n=>simpa using ih hr n off ft i (by simpa using h1) h2
 obtain⟨ws',f1,f2⟩:=fillC_sound ht h (place:=(places.toArray[·]?)) (fun n off ft fd hfs hfd=>by
   obtain⟨fi,j1,j2,_⟩:=(ht ft fd hfd).info;rw[<-hu2]at hfs;have:=hget hp n off ft fi hfs j1;rw[j2]at this;simpa using this) (parts_sound h h2) h4 (ws:=zc.toArray) (by simpa using hzv)
 have hb:E.P.built t (ps.toList.map fun(i,x)=>(i,a.eval x))=some ws':=by
  simp only[Program.built,i1,hu1,z1,hp,z2];exact f1
 have hrun:(Instr.build t (ps.map fun(i,x)=>(i,a.eval x))).run E.P w= .ok (.agg ws') w:=by
  have:=run_build (P:=E.P) w t (ps.map fun(i,x)=>(i,a.eval x)) ws' (by simpa using hb);exact this
 refine Does.pure h hd (u:= .agg ws') ?_ ⟨ws'.toList,by simp [enc],f2,fun h=>by cases h⟩;simp [execOp,ho,hrun]
end
end Go.Cm
