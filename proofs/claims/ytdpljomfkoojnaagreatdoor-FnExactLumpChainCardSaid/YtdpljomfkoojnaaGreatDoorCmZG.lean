import Derived.Test.YtdpljomfkoojnaaGreatDoorCmZF
import Derived.ChangeArms
import Derived.DataReads
import Derived.ProofKit
import Derived.OpenShut
set_option linter.unusedVariables false
namespace Go.Cm
def TKF (P:Program):Kd->(TypeId->Prop)×(List Field->Nat->Prop)
 | .int ik=>let A:=fun t=>P.underlying t=some (.int ik);(A,fun fs off=>∃fl,fs=[fl]/\fl.offset=off/\A fl.type/\P.cellsOf fl.type=1)
 | .bool=>let A:=fun t=>P.underlying t=some .bool;(A,fun fs off=>∃fl,fs=[fl]/\fl.offset=off/\A fl.type/\P.cellsOf fl.type=1)
 | .str=>let A:=fun t=>P.underlying t=some .string;(A,fun fs off=>∃fl,fs=[fl]/\fl.offset=off/\A fl.type/\P.cellsOf fl.type=1)
 | .sl k=>let A:=fun t=>∃e,P.underlying t=some (.slice e)/\(TKF P k).1 e/\P.cellsOf e=k.sz;(A,fun fs off=>∃fl,fs=[fl]/\fl.offset=off/\A fl.type/\P.cellsOf fl.type=1)
 | .st f=>let A:=fun t=>∃fs,P.underlying t=some (.struct fs)/\P.cellsOf t=f.sz/\(TKF P f).2 fs.toList 0;(A,fun fs off=>∃fl,fs=[fl]/\fl.offset=off/\A fl.type/\P.cellsOf fl.type=f.sz)
 | .pair a b=>(fun _=>False,fun fs off=>∃fl r,fs=fl::r/\fl.offset=off/\(TKF P a).1 fl.type/\P.cellsOf fl.type=a.sz/\(TKF P b).2 r (off+a.sz))
 |_=>(fun _=>False,fun _ _=>False)
def Bd:(k:Kd)->k.Ty->Prop
 | .int ik,n=>(Lit.int ik n).wf=true
 | .str,s=>s.size<=maxLen
 | .sl k,xs=>List.length xs<=maxLen/\∀x∈xs,Bd k x
 | .st f,x=>Bd f x
 | .pair a b,x=>Bd a x.1/\Bd b x.2
 |_,_=>True
abbrev no2:Nat->Nat->Prop:=fun _ _=>False
section
variable {H:Type} {enc:TypeId×Value->H} {P:Program} {w:World} {base:Nat} {spare:Nat->Bool} {held:Bool}
theorem cells_add (a:Addr) (i:Nat) (h:a.spot=none):a.add i=⟨a.block,a.off+i,none⟩:=by
 obtain⟨b,o,s⟩:=a;subst h;exact add_plain b o i
theorem cells_read {a:Addr} {n:Nat} {cs:List Value} (h:w.cells? base a n=some cs) (hn:0<n):a.spot=none/\cs.length=n/\∀j v,cs[j]? =some v->w.cell? ⟨a.block,a.off+j,none⟩=some v:=by
 obtain⟨h1,h2,h3⟩:=World.cells?_some h;have hsp:a.spot=none:=by
  have h4:=h3 0 hn;have h5:a.add 0=a:=by simp [Addr.add]
  rw[h5,List.getElem?_eq_getElem (by omega)]at h4;unfold World.cell? at h4;split at h4
  ·cases hs:a.spot with
   |none=>rfl
   |some s=>rw[hs]at h4;simp at h4
  ·cases h4
 refine⟨hsp,h2,fun j v hj=> ?_⟩;have hjl:j<n:=by rw[<-h2];exact(List.getElem?_eq_some_iff.1 hj).1
 rw[<-hj,<-h3 j hjl,cells_add a j hsp]
theorem rd_both:∀(k:Kd),(∀fuel t cs x,DataW.trod enc P w base (fun _=>true) held fuel t cs=some x->(TKF P k).1 t->∃y:k.Ty,RdC w no2 k cs y/\Bd k y)/\
  (∀fuel fs off (cs:List Value) ys,(List.mapM (fun f:Field=>DataW.trod enc P w base (fun _=>true) held fuel f.type ((cs.drop f.offset).take (P.cellsOf f.type))) fs)=some ys->(TKF P k).2 fs off->cs.length=off+k.sz->∃y:k.Ty,RdC w no2 k (cs.drop off) y/\Bd k y):=by
 intro k;have one:∀(k:Kd) (A:TypeId->Prop) (n:Nat),n=k.sz->(∀fuel t cs x,DataW.trod enc P w base (fun _=>true) held fuel t cs=some x->A t->∃y:k.Ty,RdC w no2 k cs y/\Bd k y)->
   (∀fuel fs off (cs:List Value) ys,(List.mapM (fun f:Field=>DataW.trod enc P w base (fun _=>true) held fuel f.type ((cs.drop f.offset).take (P.cellsOf f.type))) fs)=some ys->(∃fl,fs=[fl]/\fl.offset=off/\A fl.type/\P.cellsOf fl.type=n)->cs.length=off+k.sz->∃y:k.Ty,RdC w no2 k (cs.drop off) y/\Bd k y):=by
  intro k A n hn hA fuel fs off cs ys hys hfs hl;obtain⟨fl,rfl,rfl,h1,h2⟩:=hfs;simp only[List.mapM_cons,List.mapM_nil,Option.bind_eq_bind,Option.bind_eq_some_iff,Option.pure_def]at hys;obtain⟨x,hx,_⟩:=hys;have:(cs.drop fl.offset).take (P.cellsOf fl.type)=cs.drop fl.offset:=by
   rw[h2,hn];exact List.take_of_length_le (by simp;omega)
  rw[this]at hx;exact hA _ _ _ _ hx h1
 induction k with
 |int ik=>
  have A:∀fuel t cs x,DataW.trod enc P w base (fun _=>true) held fuel t cs=some x->P.underlying t=some (.int ik)->∃y:Int,RdC w no2 (.int ik) cs y/\Bd (.int ik) y:=by
   intro fuel t cs x h ht;obtain⟨n,h1,_,h3⟩:=DataW.trod_int ht h;exact⟨n,h1,h3⟩
  exact⟨A,one (.int ik) _ 1 rfl A⟩
 |bool=>
  have A:∀fuel t cs x,DataW.trod enc P w base (fun _=>true) held fuel t cs=some x->P.underlying t=some .bool->∃y:Bool,RdC w no2 .bool cs y/\Bd .bool y:=by
   intro fuel t cs x h ht;obtain⟨b,h1,_⟩:=DataW.trod_bool ht h;exact⟨b,h1,trivial⟩
  exact⟨A,one .bool _ 1 rfl A⟩
 |str=>
  have A:∀fuel t cs x,DataW.trod enc P w base (fun _=>true) held fuel t cs=some x->P.underlying t=some .string->∃y:ByteArray,RdC w no2 .str cs y/\Bd .str y:=by
   intro fuel t cs x h ht;obtain⟨s,h1,_,h3⟩:=DataW.trod_string ht h;exact⟨s,h1,h3⟩
  exact⟨A,one .str _ 1 rfl A⟩
 |sl k ih=>
  have A:∀fuel t cs x,DataW.trod enc P w base (fun _=>true) held fuel t cs=some x->(∃e,P.underlying t=some (.slice e)/\(TKF P k).1 e/\P.cellsOf e=k.sz)->∃y:List k.Ty,RdC w no2 (.sl k) cs y/\Bd (.sl k) y:=by
   intro fuel t cs x h ht;obtain⟨e,h1,h2,h3⟩:=ht;rcases DataW.trod_slice h1 h with ⟨rfl,_⟩|⟨a,len,cap,elems,rest,n,_,rfl,_,hb,hl,hm,hlen,hel,_⟩
   ·exact⟨[],⟨none,0,rfl,Nat.le_refl _,fun h=>absurd rfl h⟩,by simp,by simp⟩
   ·
    have each:∀i,i<len->∃(es:List Value) (y:k.Ty),w.cells? base (a.add (i*k.sz)) k.sz=some es/\RdC w no2 k es y/\Bd k y:=by
     intro i hi;have h4:=hel i hi;rw[List.getElem?_eq_getElem (by omega),Option.bind_eq_some_iff]at h4;obtain⟨es,h5,h6⟩:=h4;rw[h3]at h5;obtain⟨y,h7,h8⟩:=ih.1 _ _ _ _ h6 h2;exact⟨es,y,h5,h7,h8⟩
    have all:∀m,m<=len->∃ys:List k.Ty,ys.length=m/\∀i y,ys[i]? =some y->∃es,w.cells? base (a.add (i*k.sz)) k.sz=some es/\RdC w no2 k es y/\Bd k y:=by
     intro m
     induction m with
     |zero=>intro _;exact⟨[],rfl,by simp⟩
     |succ m ihm=>
      intro hm;obtain⟨ys,h9,h10⟩:=ihm (by omega);obtain⟨es,y,h11,h12,h13⟩:=each m (by omega);refine⟨ys++[y],by simp [h9],fun i z hz=> ?_⟩;rw[List.getElem?_append]at hz;split at hz
      ·exact h10 i z hz
      ·rename_i hi;have:i - ys.length=0:=by
        rcases Nat.eq_zero_or_pos (i - ys.length)with h|h
        ·exact h
        ·rw[List.getElem?_eq_none (by simp;omega)]at hz;cases hz
       rw[this]at hz;simp at hz;subst hz;have:i=m:=by omega
       subst this;exact⟨es,h11,h12,h13⟩
    obtain⟨ys,h9,h10⟩:=all len (Nat.le_refl _);have hpos:=Kd.sz_pos k;refine⟨ys,⟨some a,cap,by rw[h9],by rw[h9];exact hl,fun hn=> ?_⟩,by rw[h9];omega,fun y hy=> ?_⟩
    ·obtain⟨es0,y0,h11,_⟩:=each 0 (by omega);have hsp:=(cells_read h11 hpos).1;have hsp0:a.spot=none:=by simpa [Addr.add]using hsp
     refine⟨a.block,a.off,by rw[<-hsp0],fun i y hy=> ?_⟩;obtain⟨es,h12,h13,_⟩:=h10 i y hy;refine⟨es,h13,fun j v hj=>⟨?_,fun h=>h⟩⟩;have:=(cells_read h12 hpos).2.2 j v hj;rw[cells_add a _ hsp0]at this;exact this
    ·obtain⟨i,hi,rfl⟩:=List.mem_iff_getElem.1 hy;obtain⟨_,_,_,h14⟩:=h10 i _ (List.getElem?_eq_getElem hi);exact h14
  exact⟨A,one (.sl k) _ 1 rfl A⟩
 |st f ih=>
  have A:∀fuel t cs x,DataW.trod enc P w base (fun _=>true) held fuel t cs=some x->(∃fs,P.underlying t=some (.struct fs)/\P.cellsOf t=f.sz/\(TKF P f).2 fs.toList 0)->∃y:f.Ty,RdC w no2 (.st f) cs y/\Bd (.st f) y:=by
   intro fuel t cs x h ht;obtain⟨fs,h1,h2,h3⟩:=ht;cases fuel with
   |zero=>simp [DataW.trod]at h
   |succ n=>
    unfold DataW.trod at h;rw[h1]at h
    have h':(if cs.length=P.cellsOf t then(fs.toList.mapM fun f=>DataW.trod enc P w base (fun _=>true) held n f.type ((cs.drop f.offset).take (P.cellsOf f.type))).map fun xs=>((.agg (xs.map (·.1)):DataW H),xs.flatMap (·.2))else none)=some x:=by
     cases cs<;>exact h
    split at h'
    ·rename_i hl;rw[Option.map_eq_some_iff]at h';obtain⟨xs,hxs,_⟩:=h';obtain⟨y,h4,h5⟩:=ih.2 n fs.toList 0 cs xs hxs h3 (by omega);rw[List.drop_zero]at h4;exact⟨y,h4,h5⟩
    ·cases h'
  exact⟨A,one (.st f) _ f.sz rfl A⟩
 |pair a b iha ihb=>
  refine⟨fun fuel t cs x h ht=>ht.elim,fun fuel fs off cs ys hys hfs hl=> ?_⟩;obtain⟨fl,r,rfl,rfl,h1,h2,h3⟩:=hfs;simp only[List.mapM_cons,Option.bind_eq_bind,Option.bind_eq_some_iff,Option.pure_def]at hys;obtain⟨x,hx,ys',hys',_⟩:=hys;simp only[Kd.sz]at hl;rw[h2]at hx;obtain⟨y1,q1,q2⟩:=iha.1 _ _ _ _ hx h1;obtain⟨y2,q3,q4⟩:=ihb.2 fuel r (fl.offset+a.sz) cs ys' hys' h3 (by omega);refine⟨(y1,y2),⟨_,_,?_,q1,q3⟩,q2,q4⟩;rw[<-List.drop_drop,List.take_append_drop]
 |pt k ih=>exact⟨fun _ _ _ _ _ ht=>ht.elim,fun _ _ _ _ _ _ ht=>ht.elim⟩
 |sv k ih=>exact⟨fun _ _ _ _ _ ht=>ht.elim,fun _ _ _ _ _ _ ht=>ht.elim⟩
 |er=>exact⟨fun _ _ _ _ _ ht=>ht.elim,fun _ _ _ _ _ _ ht=>ht.elim⟩
theorem rd_of_trod {k:Kd} {t:TypeId} {v:Value} {d:DataW H} {ps:List MemPlace} (h:DataW.Trod enc P w base (fun _=>true) held t v d ps) (hk:(TKF P k).1 t):∃y:k.Ty,RdC w no2 k v.cells.toList y/\Bd k y:=by
 obtain⟨fuel,h⟩:=h;exact(rd_both k).1 _ _ _ _ h hk
theorem arg_of {k:Kd} {t:TypeId} {v:Value} {d:DataW H} {ps:List MemPlace} (h:DataW.Trod enc P w base (fun _=>true) held t v d ps) (hk:(TKF P k).1 t) {b0:Nat} (hv:Value.okWide P w .any b0 t v):
  ∃y:k.Ty,(∃cs,v=Go.Cm.enc (isSt k) cs/\RdC w no2 k cs y)/\Bd k y:=by
 obtain⟨y,h1,h2⟩:=rd_of_trod h hk;refine⟨y,⟨v.cells.toList,?_,h1⟩,h2⟩;have flat:isSt k=false->(∃u,P.underlying t=some u/\(u= .bool\/u= .string\/(∃i,u= .int i)\/∃e,u= .slice e))->v=Go.Cm.enc (isSt k) v.cells.toList:=by
  intro hs hu;rw[hs];cases v<;>try rfl
  rename_i cs;obtain⟨u,hu,hq⟩:=hu;rcases hq with rfl|rfl|⟨i,rfl⟩|⟨e,rfl⟩<;>simp [Value.okWide,hu,Cell.okWide,Cell.ok]at hv
 cases k with
 |int ik=>exact flat rfl ⟨_,hk, .inr (.inr (.inl ⟨_,rfl⟩))⟩
 |bool=>exact flat rfl ⟨_,hk, .inl rfl⟩
 |str=>exact flat rfl ⟨_,hk, .inr (.inl rfl)⟩
 |sl k=>obtain⟨e,he,_⟩:=hk;exact flat rfl ⟨_,he, .inr (.inr (.inr ⟨_,rfl⟩))⟩
 |st f=>
  obtain⟨fs,hf,_⟩:=hk;simp only[Value.okWide,hf]at hv;obtain⟨cs,rfl,_⟩:=hv;simp [Value.cells,isSt,Go.Cm.enc]
 |pair a b=>exact hk.elim
 |pt k=>exact hk.elim
 |sv k=>exact hk.elim
 |er=>exact hk.elim
end
end Go.Cm
