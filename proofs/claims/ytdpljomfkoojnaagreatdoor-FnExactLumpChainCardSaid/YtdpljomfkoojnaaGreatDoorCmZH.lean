import Derived.Test.YtdpljomfkoojnaaGreatDoorCmZG
import Derived.ChangeOld
import Derived.Below
import Derived.SizedLaws
set_option linter.unusedVariables false
namespace Go.Cm
open Go.RowKit Go.ChangeShapes
def PsOk (P:Program):List PK->List TypeId->Prop
 | [],[]=>True
 | .ro k::ps,t::ts=>(TKF P k).1 t/\P.readableRec t=true/\t<P.types.size/\PsOk P ps ts
 | .bo k::ps,t::ts=>(TKF P k).1 t/\P.readableRec t=true/\t<P.types.size/\PsOk P ps ts
 |_,_=>False
def BdA:(ps:List PK)->PTy ps->Prop
 | [],_=>True
 | .ro k::ps,x=>Bd k x.1/\BdA ps x.2
 | .bo k::ps,x=>Bd k x.1/\BdA ps x.2
 | .pm _::ps,x=>BdA ps x.2
 | .fn _::ps,x=>BdA ps x.2
 | .mu k::ps,x=>BdA ps x.2
 | .mr k::ps,x=>BdA ps x.2
section
variable {H:Type} {enc:TypeId×Value->H} {P:Program} {W:World}
theorem muFp_no {γ:Nat->CO} {P:Program} :∀ {ps:List PK} {ts:List TypeId} {i j b o:Nat},PsOk P ps ts->¬muFp γ i ps j b o
 | [],_,_,_,_,_,_,h=>h
 | .ro k::ps,[],_,_,_,_,hp,_=>hp
 | .bo k::ps,[],_,_,_,_,hp,_=>hp
 | .ro k::ps,t::ts,_,_,_,_,hp,h=>muFp_no (ps:=ps) hp.2.2.2 h
 | .bo k::ps,t::ts,_,_,_,_,hp,h=>muFp_no (ps:=ps) hp.2.2.2 h
 | .pm k::ps,ts,_,_,_,_,hp,_=>by cases ts<;>exact hp.elim
 | .fn f::ps,ts,_,_,_,_,hp,_=>by cases ts<;>exact hp.elim
 | .mu k::ps,ts,_,_,_,_,hp,_=>by cases ts<;>exact hp.elim
 | .mr k::ps,ts,_,_,_,_,hp,_=>by cases ts<;>exact hp.elim
theorem trod_same (hl:laidOutB P=true) {W':World} (hb:Below W.heap.size W W'):∀ {ps:List PK} {ts:List TypeId} {vs:List Value} {ds:List (DataW H)} {p:List MemPlace},PsOk P ps ts->
  DataW.TrodAll enc P W 0 (fun _=>true) true ts vs ds p->DataW.TrodAll enc P W' 0 (fun b=>decide (b<W.heap.size)) true ts vs ds p
 | [],ts,vs,ds,p,hp,h=>by
  cases ts with
  |nil=>cases vs<;>cases ds<;>first|exact h|exact h.elim
  |cons t ts=>exact hp.elim
 | .ro k::ps,ts,vs,ds,p,hp,h=>by
  cases ts with
  |nil=>exact hp.elim
  |cons t ts=>
   obtain⟨v,vs',d,ds',p1,q1,rfl,rfl,rfl,h1,h2⟩:=trodAll_cons h;refine⟨p1,q1,Below.trod hl hp.2.1 hp.2.2.1 h1 hb ?_,trod_same hl hb hp.2.2.2 h2,rfl⟩;obtain⟨fuel,h3⟩:=h1;exact DataW.trod_lt _ _ _ _ h3
 | .bo k::ps,ts,vs,ds,p,hp,h=>by
  cases ts with
  |nil=>exact hp.elim
  |cons t ts=>
   obtain⟨v,vs',d,ds',p1,q1,rfl,rfl,rfl,h1,h2⟩:=trodAll_cons h;refine⟨p1,q1,Below.trod hl hp.2.1 hp.2.2.1 h1 hb ?_,trod_same hl hb hp.2.2.2 h2,rfl⟩;obtain⟨fuel,h3⟩:=h1;exact DataW.trod_lt _ _ _ _ h3
 | .pm k::ps,ts,vs,ds,p,hp,h=>by cases ts<;>exact hp.elim
 | .fn f::ps,ts,vs,ds,p,hp,h=>by cases ts<;>exact hp.elim
 | .mu k::ps,ts,vs,ds,p,hp,h=>by cases ts<;>exact hp.elim
 | .mr k::ps,ts,vs,ds,p,hp,h=>by cases ts<;>exact hp.elim
theorem trod_len:∀ {ts:List TypeId} {vs:List Value} {ds:List (DataW H)} {p:List MemPlace},DataW.TrodAll enc P W 0 (fun _=>true) true ts vs ds p->ds.length=ts.length
 | [],vs,ds,p,h=>by cases vs<;>cases ds<;>first|rfl|exact h.elim
 |t::ts,vs,ds,p,h=>by
  obtain⟨v,vs',d,ds',p1,q1,rfl,rfl,rfl,h1,h2⟩:=trodAll_cons h;simp [trod_len h2]
end
end Go.Cm
