import Derived.Test.YtdpljomfkoojnaaGreatDoorCmZK
set_option linter.unusedVariables false
namespace Go.Cm
open Go.RowKit Go.ChangeShapes
def Sz:(k:Kd)->k.Ty->Prop
 | .str,s=>s.size<=reachBytes
 |_,_=>True
def SzA:(ps:List PK)->PTy ps->Prop
 | [],_=>True
 | .ro k::ps,x=>Sz k x.1/\SzA ps x.2
 | .bo k::ps,x=>Sz k x.1/\SzA ps x.2
 | .pm _::ps,x=>SzA ps x.2
 | .fn _::ps,x=>SzA ps x.2
 | .mu k::ps,x=>SzA ps x.2
 | .mr k::ps,x=>SzA ps x.2
def SzK (P:Program):(k:Kd)->TypeId->k.Ty->Prop
 | .sl _,t,xs=>∀e,P.underlying t=some (.slice e)->List.length xs*P.bytesOf e<=reachBytes
 | .st (.sl _),t,xs=>∀fs fl e,P.underlying t=some (.struct fs)->fs.toList=[fl]->P.underlying fl.type=some (.slice e)->List.length xs*P.bytesOf e<=reachBytes
 |_,_,_=>True
def SzL (P:Program):(ps:List PK)->List TypeId->PTy ps->Prop
 | .ro k::ps,t::ts,x=>SzK P k t x.1/\SzL P ps ts x.2
 | .bo k::ps,t::ts,x=>SzK P k t x.1/\SzL P ps ts x.2
 |_,_,_=>True
section
variable {H:Type} {enc:TypeId×Value->H} {P:Program} {W:World}
theorem sz_of {k:Kd} {t:TypeId} {v:Value} {d:DataW H} {ps:List MemPlace} {y:k.Ty} (h:DataW.Trod enc P W 0 (fun _=>true) true t v d ps) (hk:(TKF P k).1 t) (hr:∃cs,v=Go.Cm.enc (isSt k) cs/\RdC W no2 k cs y) (hw:(d.weights P t).all (·<=reachBytes)=true):Sz k y:=by
 cases k with
 |str=>
  obtain⟨fuel,h⟩:=h;obtain⟨s,h1,h2,h3⟩:=DataW.trod_string hk h;obtain⟨cs,rfl,hr⟩:=hr;have hr':cs=[.string y]:=hr;subst hr';cases h2;have h4:([Value.string y]:List Value)=[.string s]:=h1;cases h4;show y.size<=reachBytes;have h5:y.data.toList.length<=reachBytes:=by simpa [DataW.weights]using hw
  have:y.size=y.data.toList.length:=by rw[Array.length_toList];rfl
  omega
 |_=>trivial
theorem szk_slice {k:Kd} {t:TypeId} {fuel:Nat} {cs cs':List Value} {d:DataW H} {ps:List MemPlace} {y:List k.Ty} (h:DataW.trod enc P W 0 (fun _=>true) true fuel t cs'=some (d,ps)) (hc:∀z,cs'=[z]->cs=[z]) (hr:RdC W no2 (.sl k) cs y) (hw:(d.weights P t).all (·<=reachBytes)=true):SzK P (.sl k) t y:=by
 intro e he;obtain⟨A,c,q1,q2,q3⟩:=hr;rcases DataW.trod_slice he h with ⟨q,_⟩|⟨a,len,cap,elems,rest,n,_,q,hx,hb,hl,hm,hlen,hel,_⟩
 ·have:=hc _ q;rw[q1]at this;simp only[List.cons.injEq,Value.slice.injEq,and_true]at this;rw[this.2.1];omega
 ·have:=hc _ q;rw[q1]at this;simp only[List.cons.injEq,Value.slice.injEq,and_true]at this;simp only[Prod.mk.injEq]at hx;rw[hx.1]at hw;simp only[DataW.weights,he,List.all_cons,Bool.and_eq_true,decide_eq_true_eq,List.length_map]at hw;have h1:=hw.1;rw[this.2.1,<-hlen];exact Nat.le_trans (Nat.mul_le_mul_right _ (Nat.le_add_right _ _)) h1
theorem szk_of {k:Kd} {t:TypeId} {v:Value} {d:DataW H} {ps:List MemPlace} {y:k.Ty} (h:DataW.Trod enc P W 0 (fun _=>true) true t v d ps) (hr:∃cs,v=Go.Cm.enc (isSt k) cs/\RdC W no2 k cs y) (hw:(d.weights P t).all (·<=reachBytes)=true):SzK P k t y:=by
 obtain⟨fuel,h⟩:=h;obtain⟨cs,rfl,hr⟩:=hr;cases k with
 |sl k=>
  obtain⟨A,c,rfl,q⟩:=hr;exact szk_slice h (fun z hz=>hz) ⟨A,c,rfl,q⟩ hw
 |st f=>
  cases f with
  |sl k=>
   intro fs fl e hf hfs he;have hr':RdC W no2 (.sl k) cs y:=hr;cases fuel with
   |zero=>simp [DataW.trod]at h
   |succ n=>
    have hcs:(Go.Cm.enc (isSt (.st (.sl k))) cs).cells.toList=cs:=by simp [Go.Cm.enc,isSt,Value.cells]
    rw[hcs]at h;unfold DataW.trod at h;rw[hf]at h
    have h':(if cs.length=P.cellsOf t then(fs.toList.mapM fun f=>DataW.trod enc P W 0 (fun _=>true) true n f.type ((cs.drop f.offset).take (P.cellsOf f.type))).map fun xs=>((.agg (xs.map (·.1)):DataW H),xs.flatMap (·.2))else none)=some (d,ps):=by
     cases cs<;>exact h
    split at h'
    case isFalse=>cases h'
    rw[Option.map_eq_some_iff]at h';obtain⟨xs,hxs,hd⟩:=h';rw[hfs]at hxs;simp only[List.mapM_cons,List.mapM_nil,Option.bind_eq_bind,Option.bind_eq_some_iff,Option.pure_def,Option.some.injEq]at hxs;obtain⟨x,hx,zs,rfl,rfl⟩:=hxs;simp only[Prod.mk.injEq]at hd;obtain⟨x1,x2⟩:=x;obtain⟨A,c,q1,q⟩:=hr';refine szk_slice hx (cs:=cs) (fun z hz=> ?_) ⟨A,c,q1,q⟩ ?_ e he
    ·rw[q1]at hz ⊢;cases hoff:fl.offset with
     |zero=>
      rw[hoff,List.drop_zero]at hz;cases hn:P.cellsOf fl.type with
      |zero=>rw[hn]at hz;simp at hz
      |succ m=>rw[hn]at hz;simpa using hz
     |succ m=>rw[hoff]at hz;simp at hz
    ·rw[<-hd.1]at hw;simp only[DataW.weights,hf,hfs,List.map_cons,List.map_nil,DataW.weightsEach,List.append_nil]at hw;exact hw
  |_=>trivial
 |_=>trivial
theorem args_sz {γ:Nat->CO} {b0:Nat} :∀ {ps:List PK} {ts:List TypeId} {i:Nat} {vs:List Value} {ds:List (DataW H)} {p:List MemPlace},PsOk P ps ts->DataW.TrodAll enc P W 0 (fun _=>true) true ts vs ds p->
  (∀(j:Nat) t v,ts[j]? =some t->vs[j]? =some v->Value.okWide P W .any b0 t v)->(DataW.weightsEach P ts ds).all (·<=reachBytes)=true->∃x:PTy ps,ArgsRel W no2 no2 γ i ps x vs/\BdA ps x/\SzA ps x/\SzL P ps ts x
 | [],ts,i,vs,ds,p,hp,h,hv,hw=>by
  cases ts with
  |nil=>cases vs with
   |nil=>exact⟨(),rfl,trivial,trivial,trivial⟩
   |cons v vs=>cases ds<;>exact h.elim
  |cons t ts=>exact hp.elim
 | .ro k::ps,ts,i,vs,ds,p,hp,h,hv,hw=>by
  cases ts with
  |nil=>exact hp.elim
  |cons t ts=>
   obtain⟨v,vs',d,ds',p1,q1,rfl,rfl,rfl,h1,h2⟩:=trodAll_cons h;have hw':(d.weights P t++DataW.weightsEach P ts ds').all (·<=reachBytes)=true:=hw;rw[List.all_append,Bool.and_eq_true]at hw';obtain⟨y,h3,h4⟩:=arg_of h1 hp.1 (hv 0 t v rfl rfl);obtain⟨x,h5,h6,h7,h8⟩:=args_sz (i:=i+1) hp.2.2.2 h2 (fun j t v hj hj'=>hv (j+1) t v (by simpa using hj) (by simpa using hj')) hw'.2;exact⟨(y,x),⟨v,vs',rfl,h3,h5⟩,⟨h4,h6⟩,⟨sz_of h1 hp.1 h3 hw'.1,h7⟩,szk_of h1 h3 hw'.1,h8⟩
 | .bo k::ps,ts,i,vs,ds,p,hp,h,hv,hw=>by
  cases ts with
  |nil=>exact hp.elim
  |cons t ts=>
   obtain⟨v,vs',d,ds',p1,q1,rfl,rfl,rfl,h1,h2⟩:=trodAll_cons h;have hw':(d.weights P t++DataW.weightsEach P ts ds').all (·<=reachBytes)=true:=hw;rw[List.all_append,Bool.and_eq_true]at hw';obtain⟨y,h3,h4⟩:=arg_of h1 hp.1 (hv 0 t v rfl rfl);obtain⟨x,h5,h6,h7,h8⟩:=args_sz (i:=i+1) hp.2.2.2 h2 (fun j t v hj hj'=>hv (j+1) t v (by simpa using hj) (by simpa using hj')) hw'.2;exact⟨(y,x),⟨v,vs',rfl,h3,h5⟩,⟨h4,h6⟩,⟨sz_of h1 hp.1 h3 hw'.1,h7⟩,szk_of h1 h3 hw'.1,h8⟩
 | .pm k::ps,ts,i,vs,ds,p,hp,h,hv,hw=>by cases ts<;>exact hp.elim
 | .fn f::ps,ts,i,vs,ds,p,hp,h,hv,hw=>by cases ts<;>exact hp.elim
 | .mu k::ps,ts,i,vs,ds,p,hp,h,hv,hw=>by cases ts<;>exact hp.elim
 | .mr k::ps,ts,i,vs,ds,p,hp,h,hv,hw=>by cases ts<;>exact hp.elim
theorem law_done_sz {gl:List (Nat×List Value)} {f:Nat} {fn:Func} {s:ChangeSpec} {ps:List PK} {S:PTy ps->Option (Bool×MTy ps)} (hl:laidOutB P=true) (hv:Valid P gl f ⟨ps,false,[(false,[.ro .bool])],S,[]⟩)
  (hps:PsOk P ps fn.params.toList) {tb:TypeId} (hr:fn.resultTypes= #[tb]) (hub:P.underlying tb=some .bool) (hvars:s.vars=[]) (hsp:∀ds:List (DataW H),ds.length=fn.params.toList.length->(s.fn H ds).results=[.lit (.bool true)]/\(s.fn H ds).args=ds/\(s.fn H ds).vars=[])
  (htrue:∀x:PTy ps,BdA ps x->SzA ps x->SzL P ps fn.params.toList x->∃m,S x=some (true,m)) {b0:Nat} {args:Array Value} {ds gs:List (DataW H)} {before:List MemPlace} {ap:Bool} (hlaid:Laid gl W no2)
  (hval:∀(j:Nat) t v,fn.params[j]? =some t->args[j]? =some v->Value.okWide P W .any b0 t v) (hW:DataW.Whole enc P fn.params.toList s.vars ap W args.toList ds gs before)
  (hz:(DataW.weightsEach P (fn.params.toList++s.plain.varTypes P) (ds++gs)).all (·<=reachBytes)=true):
  Calls P f args W fun e W'=>∃v,e= .returned v/\s.post enc P fn ap true false false W args v W':=by
 have hW':=hW;obtain⟨p,q,hA,hV,rfl,hfz,hnd⟩:=hW;rw[hvars]at hV;obtain⟨rfl,rfl⟩:gs=[]/\q=[]:=by
  cases gs with
  |nil=>exact⟨rfl,hV⟩
  |cons g gs=>exact hV.elim
 have hvt:s.plain.varTypes P=[]:=by
  show s.vars.filterMap _=[]
  rw[hvars];rfl
 rw[hvt,List.append_nil,List.append_nil]at hz;obtain⟨x,h1,h2,h2',h2''⟩:=args_sz (γ:=fun _=>CO.no) (i:=0) hps hA (fun j t v hj hj'=>hval j t v (by simpa using hj) (by simpa using hj')) hz;obtain⟨m,hS⟩:=htrue x h2 h2' h2'';have hc:=hv.2 W no2 no2 args.toList x (fun _=>CO.no) (fun _ _ h=>h.elim) (fun _ _ h=>h) hlaid h1 (fun j j' b o _ h _=>muFp_no hps h) (true,m) hS;refine hc.mono ?_
 rintro e W' ⟨vs,rfl,hF,β,_,_,hres,_⟩
 obtain⟨cs,rfl,h3,h4⟩:=hres;have h5:cs=[.bool true]:=h4;subst h5;have hb:=hF.below;have hd:=hsp ds (trod_len hA);refine⟨.bool true,rfl,ds,[],p++[],[],p,[],hW',?_,?_,?_,hb.frame _,fun h=>by cases h⟩
 ·rw[List.append_nil,hd.1,hr];refine⟨[],[],?_,rfl,rfl⟩;exact⟨1,by simp [DataW.trod,hub,Value.cells]⟩
 ·rw[List.append_nil,hd.2.1];exact trod_same hl hb hps hA
 ·rw[hvars,List.append_nil,hd.2.2];exact rfl
end
theorem handed_open_sz {H:Type} {enc:TypeId×Value->H} {a:Assume} {C:Checked} {os:Os} {f:FuncId} {fn:Func} {s:ChangeSpec} {conds:List PathCond} {apart fresh handsOn again:Bool} {X:World->Array Value->Prop}
  (hX:∀(w w':World) (args:Array Value),w.heap=w'.heap->X w args->X w' args)
  (own:ownKnob C.prog.godebug=none) (started:os.Started) (noInit:C.prog.inits.idxOf? f=none) (hfn:C.prog.funcs[f]? =some fn)
  (witness:∃(w:World) (tape:Tape) (i:Input),w.os=os/\(w.forCall tape i).Shaped C.prog/\i.vars=[]/\Input.okWide C.prog (w.forCall tape i) .any w.heap.size f i/\
   ((s.pre enc C.prog fn conds apart (w.forCall tape i).memory i.args/\X (w.forCall tape i).memory i.args)/\sizedMet enc C.prog fn (OpenSpec.ofChange s) apart (w.forCall tape i).memory i.args)/\a.holds C.prog (lone (Frame.enter C.prog f i.args .normal) [] (w.forCall tape i)))
  (contract:∀(W:World) (base:Nat) (args:Array Value) (ds gs:List (DataW H)) (before:List MemPlace),W.ShapedOpen C.prog->
   (∀(j:Nat) t v,fn.params[j]? =some t->args[j]? =some v->Value.okWide C.prog W .any base t v)->
   DataW.Whole enc C.prog fn.params.toList s.vars apart W args.toList ds gs before->
   (DataW.weightsEach C.prog (fn.params.toList++s.plain.varTypes C.prog) (ds++gs)).all (·<=reachBytes)=true->X W args->
   Calls C.prog f args W fun e W'=>∃v,e= .returned v/\s.post enc C.prog fn apart fresh handsOn again W args v W'):
  ReturnsInHanded a C os f .any (fun w args=>(s.pre enc C.prog fn conds apart w args/\X w args)/\sizedMet enc C.prog fn (OpenSpec.ofChange s) apart w args) (s.post enc C.prog fn apart fresh handsOn again):=by
 refine returnsInHanded_of_calls own started noInit witness (fun w tape i _ hsh _ hok hpre _=> ?_);obtain⟨_,_,_,fn',hfn',_,_,_,_,hval⟩:=hok;obtain rfl:fn'=fn:=Option.some.inj (hfn'.symm.trans hfn);obtain⟨⟨⟨ds,gs,before,hw,_⟩,hx⟩,hz⟩:=hpre;have hw':=DataW.Whole.of_heap (w':=w.forCall tape i) (by rfl) hw;refine(contract (w.forCall tape i) w.heap.size i.args ds gs before hsh hval hw' (hz.weights hw) (hX _ _ _ (by rfl) hx)).mono fun e W' ⟨v,he,hp⟩=> ?_
 subst he;exact ChangeSpec.post_blind hp
end Go.Cm
