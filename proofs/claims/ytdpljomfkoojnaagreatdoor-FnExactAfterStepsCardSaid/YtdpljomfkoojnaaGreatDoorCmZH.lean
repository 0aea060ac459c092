import Derived.Test.YtdpljomfkoojnaaGreatDoorCmZG
import Derived.ChangeOld
import Derived.Below
import Derived.SizedLaws
set_option linter.unusedVariables false
namespace Go.Cm
open Go.RowKit Go.ChangeShapes
def PsOk (P:Program):List PK→List TypeId→Prop
 | [],[]=>True
 | .ro k::ps,t::ts=>(TKF P k).1 t∧P.readableRec t=true∧t<P.types.size∧PsOk P ps ts
 | .bo k::ps,t::ts=>(TKF P k).1 t∧P.readableRec t=true∧t<P.types.size∧PsOk P ps ts
 |_,_=>False
def BdA:(ps:List PK)→PTy ps→Prop
 | [],_=>True
 | .ro k::ps,x=>Bd k x.1∧BdA ps x.2
 | .bo k::ps,x=>Bd k x.1∧BdA ps x.2
 | .fn _::ps,x=>BdA ps x.2
 | .mu k::ps,x=>BdA ps x.2
 | .mr k::ps,x=>BdA ps x.2
section
variable {H:Type} {enc:TypeId×Value→H} {P:Program} {W:World}
theorem args_of {γ:Nat→CO} {b0:Nat} :∀ {ps:List PK} {ts:List TypeId} {i:Nat} {vs:List Value} {ds:List (DataW H)} {p:List MemPlace},PsOk P ps ts→DataW.TrodAll enc P W 0 (fun _=>true) true ts vs ds p→
  (∀(j:Nat) t v,ts[j]? =some t→vs[j]? =some v→Value.okWide P W .any b0 t v)→∃x:PTy ps,ArgsRel W no2 no2 γ i ps x vs∧BdA ps x
 | [],ts,i,vs,ds,p,hp,h,hv=>by
  cases ts with
  |nil=>cases vs with
   |nil=>exact⟨(),rfl,trivial⟩
   |cons v vs=>cases ds<;>exact h.elim
  |cons t ts=>exact hp.elim
 | .ro k::ps,ts,i,vs,ds,p,hp,h,hv=>by
  cases ts with
  |nil=>exact hp.elim
  |cons t ts=>
   obtain⟨v,vs',d,ds',p1,q1,rfl,rfl,rfl,h1,h2⟩:=trodAll_cons h
   obtain⟨y,h3,h4⟩:=arg_of h1 hp.1 (hv 0 t v rfl rfl)
   obtain⟨x,h5,h6⟩:=args_of (i:=i+1) hp.2.2.2 h2 (fun j t v hj hj'=>hv (j+1) t v (by simpa using hj) (by simpa using hj'))
   exact⟨(y,x),⟨v,vs',rfl,h3,h5⟩,h4,h6⟩
 | .bo k::ps,ts,i,vs,ds,p,hp,h,hv=>by
  cases ts with
  |nil=>exact hp.elim
  |cons t ts=>
   obtain⟨v,vs',d,ds',p1,q1,rfl,rfl,rfl,h1,h2⟩:=trodAll_cons h
   obtain⟨y,h3,h4⟩:=arg_of h1 hp.1 (hv 0 t v rfl rfl)
   obtain⟨x,h5,h6⟩:=args_of (i:=i+1) hp.2.2.2 h2 (fun j t v hj hj'=>hv (j+1) t v (by simpa using hj) (by simpa using hj'))
   exact⟨(y,x),⟨v,vs',rfl,h3,h5⟩,h4,h6⟩
 | .fn f::ps,ts,i,vs,ds,p,hp,h,hv=>by cases ts<;>exact hp.elim
 | .mu k::ps,ts,i,vs,ds,p,hp,h,hv=>by cases ts<;>exact hp.elim
 | .mr k::ps,ts,i,vs,ds,p,hp,h,hv=>by cases ts<;>exact hp.elim
theorem muFp_no {γ:Nat→CO} {P:Program} :∀ {ps:List PK} {ts:List TypeId} {i j b o:Nat},PsOk P ps ts→¬muFp γ i ps j b o
 | [],_,_,_,_,_,_,h=>h
 | .ro k::ps,[],_,_,_,_,hp,_=>hp
 | .bo k::ps,[],_,_,_,_,hp,_=>hp
 | .ro k::ps,t::ts,_,_,_,_,hp,h=>muFp_no (ps:=ps) hp.2.2.2 h
 | .bo k::ps,t::ts,_,_,_,_,hp,h=>muFp_no (ps:=ps) hp.2.2.2 h
 | .fn f::ps,ts,_,_,_,_,hp,_=>by cases ts<;>exact hp.elim
 | .mu k::ps,ts,_,_,_,_,hp,_=>by cases ts<;>exact hp.elim
 | .mr k::ps,ts,_,_,_,_,hp,_=>by cases ts<;>exact hp.elim
theorem trod_same (hl:laidOutB P=true) {W':World} (hb:Below W.heap.size W W'):∀ {ps:List PK} {ts:List TypeId} {vs:List Value} {ds:List (DataW H)} {p:List MemPlace},PsOk P ps ts→
  DataW.TrodAll enc P W 0 (fun _=>true) true ts vs ds p→DataW.TrodAll enc P W' 0 (fun b=>decide (b<W.heap.size)) true ts vs ds p
 | [],ts,vs,ds,p,hp,h=>by
  cases ts with
  |nil=>cases vs<;>cases ds<;>first|exact h|exact h.elim
  |cons t ts=>exact hp.elim
 | .ro k::ps,ts,vs,ds,p,hp,h=>by
  cases ts with
  |nil=>exact hp.elim
  |cons t ts=>
   obtain⟨v,vs',d,ds',p1,q1,rfl,rfl,rfl,h1,h2⟩:=trodAll_cons h
   refine⟨p1,q1,Below.trod hl hp.2.1 hp.2.2.1 h1 hb ?_,trod_same hl hb hp.2.2.2 h2,rfl⟩
   obtain⟨fuel,h3⟩:=h1
   exact DataW.trod_lt _ _ _ _ h3
 | .bo k::ps,ts,vs,ds,p,hp,h=>by
  cases ts with
  |nil=>exact hp.elim
  |cons t ts=>
   obtain⟨v,vs',d,ds',p1,q1,rfl,rfl,rfl,h1,h2⟩:=trodAll_cons h
   refine⟨p1,q1,Below.trod hl hp.2.1 hp.2.2.1 h1 hb ?_,trod_same hl hb hp.2.2.2 h2,rfl⟩
   obtain⟨fuel,h3⟩:=h1
   exact DataW.trod_lt _ _ _ _ h3
 | .fn f::ps,ts,vs,ds,p,hp,h=>by cases ts<;>exact hp.elim
 | .mu k::ps,ts,vs,ds,p,hp,h=>by cases ts<;>exact hp.elim
 | .mr k::ps,ts,vs,ds,p,hp,h=>by cases ts<;>exact hp.elim
theorem trod_len:∀ {ts:List TypeId} {vs:List Value} {ds:List (DataW H)} {p:List MemPlace},DataW.TrodAll enc P W 0 (fun _=>true) true ts vs ds p→ds.length=ts.length
 | [],vs,ds,p,h=>by cases vs<;>cases ds<;>first|rfl|exact h.elim
 |t::ts,vs,ds,p,h=>by
  obtain⟨v,vs',d,ds',p1,q1,rfl,rfl,rfl,h1,h2⟩:=trodAll_cons h
  simp [trod_len h2]
theorem law_done {gl:List (Nat×List Value)} {f:Nat} {fn:Func} {s:ChangeSpec} {ps:List PK} {S:PTy ps→Option (Bool×MTy ps)} (hl:laidOutB P=true) (hv:Valid P gl f ⟨ps,false,[(false,[.ro .bool])],S,[]⟩)
  (hps:PsOk P ps fn.params.toList) {tb:TypeId} (hr:fn.resultTypes= #[tb]) (hub:P.underlying tb=some .bool) (hvars:s.vars=[]) (hsp:∀ds:List (DataW H),ds.length=fn.params.toList.length→(s.fn H ds).results=[.lit (.bool true)]∧(s.fn H ds).args=ds∧(s.fn H ds).vars=[])
  (htrue:∀x:PTy ps,BdA ps x→∃m,S x=some (true,m)) {b0:Nat} {args:Array Value} {ds gs:List (DataW H)} {before:List MemPlace} {ap:Bool} (hlaid:Laid gl W no2)
  (hval:∀(j:Nat) t v,fn.params[j]? =some t→args[j]? =some v→Value.okWide P W .any b0 t v) (hW:DataW.Whole enc P fn.params.toList s.vars ap W args.toList ds gs before):
  Calls P f args W fun e W'=>∃v,e= .returned v∧s.post enc P fn ap true false false W args v W':=by
 have hW':=hW
 obtain⟨p,q,hA,hV,rfl,hfz,hnd⟩:=hW
 rw[hvars]at hV
 obtain⟨rfl,rfl⟩:gs=[]∧q=[]:=by
  cases gs with
  |nil=>exact⟨rfl,hV⟩
  |cons g gs=>exact hV.elim
 obtain⟨x,h1,h2⟩:=args_of (γ:=fun _=>CO.no) (i:=0) hps hA (fun j t v hj hj'=>hval j t v (by simpa using hj) (by simpa using hj'))
 obtain⟨m,hS⟩:=htrue x h2
 have hc:=hv.2 W no2 no2 args.toList x (fun _=>CO.no) (fun _ _ h=>h.elim) (fun _ _ h=>h) hlaid h1 (fun j j' b o _ h _=>muFp_no hps h) (true,m) hS
 refine hc.mono ?_
 rintro e W' ⟨vs,rfl,hF,β,_,_,hres,_⟩
 obtain⟨cs,rfl,h3,h4⟩:=hres
 have h5:cs=[.bool true]:=h4
 subst h5
 have hb:=hF.below
 have hd:=hsp ds (trod_len hA)
 refine⟨.bool true,rfl,ds,[],p++[],[],p,[],hW',?_,?_,?_,hb.frame _,fun h=>by cases h⟩
 ·rw[List.append_nil,hd.1,hr]
  refine⟨[],[],?_,rfl,rfl⟩
  exact⟨1,by simp [DataW.trod,hub,Value.cells]⟩
 ·rw[List.append_nil,hd.2.1]
  exact trod_same hl hb hps hA
 ·rw[hvars,List.append_nil,hd.2.2]
  exact rfl
end
end Go.Cm
