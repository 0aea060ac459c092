import Derived.Test.YtdpljomfkoojnaaGreatDoorCmTn
import Derived.Test.YtdpljomfkoojnaaGreatDoorCmQa
import Derived.Lib.ItoaNum
import Derived.Lib.Join
import Derived.Lib.LaidTab
import Derived.Below
set_option linter.unusedVariables false
namespace Go.Cm
open Go.RowKit
theorem fr_of_below {W0:Nat->Nat->Prop} {w w':World} (h:Below w.heap.size w w'):Fr W0 w w':=⟨h.os,h.tape,h.output,h.size,fun b hb=> .inl (h.block b hb)⟩
theorem enters_of {P:Program} {f:Nat} {fn:Func} (hf:P.funcs[f]? =some fn) (h1:(fn.name== "runtime.NumGoroutine")=false) (h2:fn.body.isNone=false):Enters P f:=⟨fn,hf,h1,h2⟩
theorem laid_var {P:Program} {gl:List (Nat×List Value)} {w:World} {M:Nat->Nat->Prop} {name:String} {g:Nat} {cs:List Value} (h:Laid gl w M) (hm:(g,cs)∈gl) (hg:P.globalNamed name=some g):w.var? P name=some cs.toArray:=by
 obtain⟨⟨e,z,h1⟩,_⟩:=h _ hm;simp [World.var?,hg,h1]
theorem laid_cell {gl:List (Nat×List Value)} {w:World} {M:Nat->Nat->Prop} {g:Nat} {v:Value} {cs:List Value} (h:Laid gl w M) (hm:(g,v::cs)∈gl):w.cell? ⟨g,0,none⟩=some v:=by
 obtain⟨⟨e,z,h1⟩,_⟩:=h _ hm;simp [World.cell?,h1]
theorem told_flat {P:Program} {gl:List (Nat×List Value)} {f:Nat} {ps:List PK} {tup:Bool} {rs:List RK} {S:PTy ps->Option (RkTy rs×MTy ps)} (hE:Enters P f)
  (hmu:∀(w':World) (M':Nat->Nat->Prop) (γ:Nat->CO) (x:PTy ps) (r:RkTy rs×MTy ps),S x=some r->MuBack w' M' γ 0 ps r.2)
  (h:∀(w:World) (M0 W0:Nat->Nat->Prop) (us:List Value) (x:PTy ps) (γ:Nat->CO),Laid gl w M0->(∀b o,W0 b o->M0 b o)->ArgsRel w M0 W0 γ 0 ps x us->∀r,S x=some r->
   Calls P f us.toArray w fun e w'=>∃vs,e= .returned (bval tup vs)/\Below w.heap.size w w'/\∀M',ResR w' M' (fun _=>(.no, .no)) us 0 rs r.1 vs):Valid P gl f ⟨ps,tup,rs,S,[]⟩:=by
 refine⟨hE,fun w M0 W0 us x γ hM hW hl ha hd r hr=> ?_⟩;refine(h w M0 W0 us x γ hl hW ha r hr).mono ?_
 rintro e w' ⟨vs,he,hb,hres⟩
 have hno:∀(j b o:Nat),¬fp ((fun _=>(AO.no,CO.no):Nat->AO×CO) j).1 ((fun _=>(AO.no,CO.no):Nat->AO×CO) j).2 b o:=fun j b o hf=>hf
 exact⟨vs,he,fr_of_below hb,fun _=>(.no, .no),fun j b o hf=>(hno j b o hf).elim,fun j j' b o _ hf _=>(hno j b o hf).elim,hres _,hmu _ _ _ _ _ hr⟩
end Go.Cm
