import Derived.Test.YtdpljomfkoojnaaGreatDoorCmS
set_option linter.unusedVariables false
namespace Go.Cm
def MuArg (w:World) (M0 W0:Nat->Nat->Prop) (k:Kd) (xs:List k.Ty) (c:CO) (u:Value):Prop:=
 ∃A real,c= .arr A xs.length real/\SlAt A 0 xs.length real u/\xs.length<=real/\(A=none↔real=0)/\∀b o,A=some (b,o)->
  (∀(i:Nat) (x:k.Ty),xs[i]? =some x->∃es,RdC w M0 k es x/\Cells0 w b (o+i*k.sz) es)/\
  ∀j,j<xs.length*k.sz->W0 b (o+j)/\(∃v,w.cell? ⟨b,o+j,none⟩=some v)/\w.frozen? ⟨b,o+j,none⟩=false
def MrArg (w:World) (M0 W0:Nat->Nat->Prop) (k:Kd) (x:List (List k.Ty×Nat)) (c:CO) (u:Value):Prop:=
 ∃A real ms,c= .rows A x.length real ms/\SlAt A 0 x.length real u/\RowsOk w M0 false k (hd0 x) (in0 x) A x.length real ms/\∀b o,fp (.rows false k 0 [] []) c b o->W0 b o
def ArgsRel (w:World) (M0 W0:Nat->Nat->Prop) (γ:Nat->CO):(i:Nat)->(ps:List PK)->PTy ps->List Value->Prop
 |_,[],_,us=>us=[]
 |i, .ro k::ps,x,us=>∃u us',us=u::us'/\(∃cs,u=enc (isSt k) cs/\RdC w M0 k cs x.1)/\ArgsRel w M0 W0 γ (i+1) ps x.2 us'
 |i, .bo k::ps,x,us=>∃u us',us=u::us'/\(∃cs,u=enc (isSt k) cs/\RdC w W0 k cs x.1)/\ArgsRel w M0 W0 γ (i+1) ps x.2 us'
 |i, .pm k::ps,x,us=>∃u us',us=u::us'/\(∃b o es,u= .pointer (some ⟨b,o,none⟩)/\RdC w M0 k es x.1/\Cells w W0 b o es)/\ArgsRel w M0 W0 γ (i+1) ps x.2 us'
 |i, .fn f::ps,x,us=>∃u us',us=u::us'/\u= .func (.func f) #[] #[]/\ArgsRel w M0 W0 γ (i+1) ps x.2 us'
 |i, .mu k::ps,x,us=>∃u us',us=u::us'/\MuArg w M0 W0 k x.1 (γ i) u/\ArgsRel w M0 W0 γ (i+1) ps x.2 us'
 |i, .mr k::ps,x,us=>∃u us',us=u::us'/\MrArg w M0 W0 k x.1 (γ i) u/\ArgsRel w M0 W0 γ (i+1) ps x.2 us'
def muFp (γ:Nat->CO):(i:Nat)->List PK->Nat->Nat->Nat->Prop
 |_,[],_,_,_=>False
 |i, .mu k::ps,j,b,o=>(j=i/\fp (.arr false false k []) (γ i) b o)\/muFp γ (i+1) ps j b o
 |i, .mr k::ps,j,b,o=>(j=i/\fp (.rows false k 0 [] []) (γ i) b o)\/muFp γ (i+1) ps j b o
 |i, .ro _::ps,j,b,o=>muFp γ (i+1) ps j b o
 |i, .bo _::ps,j,b,o=>muFp γ (i+1) ps j b o
 |i, .pm _::ps,j,b,o=>muFp γ (i+1) ps j b o
 |i, .fn _::ps,j,b,o=>muFp γ (i+1) ps j b o
def MuDisj (γ:Nat->CO) (ps:List PK):Prop:=∀j j' b o,j≠j'->muFp γ 0 ps j b o->muFp γ 0 ps j' b o->False
def MuBack (w':World) (M':Nat->Nat->Prop) (γ:Nat->CO):(i:Nat)->(ps:List PK)->MTy ps->Prop
 |_,[],_=>True
 |i, .mu k::ps,m=>(∃A cap real,γ i= .arr A cap real/\List.length m.1=cap/\∀b o,A=some (b,o)->
   (∀(q:Nat) (x:k.Ty),m.1[q]? =some x->∃es,RdC w' M' k es x/\Cells0 w' b (o+q*k.sz) es))/\MuBack w' M' γ (i+1) ps m.2
 |i, .mr k::ps,m=>(∃A cap real ms ms',γ i= .rows A cap real ms/\(∀q∈ms',q∈ms)/\RowsOk w' M' false k (hd0 m.1) (in0 m.1) A cap real ms')/\MuBack w' M' γ (i+1) ps m.2
 |i, .ro _::ps,m=>MuBack w' M' γ (i+1) ps m
 |i, .bo _::ps,m=>MuBack w' M' γ (i+1) ps m
 |i, .pm _::ps,m=>MuBack w' M' γ (i+1) ps m
 |i, .fn _::ps,m=>MuBack w' M' γ (i+1) ps m
def OA (w:World) (M:Nat->Nat->Prop) (o:AO) (c:CO):Prop:=OR w M M (fun _=>(0, .no)) (fun _=> .no) o c
def ResC (w':World) (M':Nat->Nat->Prop) (β:Nat->AO×CO) (us:List Value) (j:Nat):(r:RC)->r.Ty->List Value->Prop
 | .ro k,x,cs=>RdC w' M' k cs x
 | .own k,xs,cs=>∃u A cap real,cs=[u]/\β j=(.arr true false k xs, .arr A cap real)/\OA w' M' (β j).1 (β j).2/\SlAt A 0 (List.length xs) real u
 | .ov k,xs,cs=>∃u A cap real,cs=[u]/\β j=(.arr true false k xs.1, .arr A cap real)/\OA w' M' (β j).1 (β j).2/\xs.2<=List.length xs.1/\SlAt A 0 xs.2 real u
 | .rows k,xs,cs=>∃u A cap real ms,cs=[u]/\β j=(ao0 true k xs.1, .rows A cap real ms)/\OA w' M' (β j).1 (β j).2/\xs.2<=List.length xs.1/\SlAt A 0 xs.2 real u
 | .al i _,_,cs=>∃u u0,cs=[u]/\us[i]? =some u0/\u.oneCell'=true/\∀A d len c,SlAt A d len c u0->SlAt A d len c u
def ResS (w':World) (M':Nat->Nat->Prop) (β:Nat->AO×CO) (us:List Value):(j:Nat)->(rs:List RC)->RsTy rs->List Value->Prop
 |_,[],_,cs=>cs=[]
 |j,[r],x,cs=>ResC w' M' β us j r x cs
 |j,r::s::t,x,cs=>∃c1 c2,cs=c1++c2/\ResC w' M' β us j r x.1 c1/\ResS w' M' β us (j+1) (s::t) x.2 c2
def ResR (w':World) (M':Nat->Nat->Prop) (β:Nat->AO×CO) (us:List Value):(j:Nat)->(rs:List RK)->RkTy rs->List Value->Prop
 |_,[],_,vs=>vs=[]
 |j,[r],x,vs=>∃cs,vs=[enc r.1 cs]/\(r.1=false->cs.length=1)/\ResS w' M' β us j r.2 x cs
 |j,r::s::t,x,vs=>∃cs vs',vs=enc r.1 cs::vs'/\(r.1=false->cs.length=1)/\ResS w' M' β us j r.2 x.1 cs/\ResR w' M' β us (j+r.2.length) (s::t) x.2 vs'
def ownS:(j:Nat)->List RC->List Nat
 |_,[]=>[]
 |j, .ro _::t=>ownS (j+1) t
 |j, .own _::t=>j::ownS (j+1) t
 |j, .ov _::t=>j::ownS (j+1) t
 |j, .rows _::t=>j::ownS (j+1) t
 |j, .al _ _::t=>ownS (j+1) t
def ownR:(j:Nat)->List RK->List Nat
 |_,[]=>[]
 |j,r::t=>ownS j r.2++ownR (j+r.2.length) t
def gat:List Nat->List Value->List Value
 | [],us=>us
 |0::r,u::us=>u::gat r us
 |(n+1)::r,us=> .agg (us.take (n+1)).toArray::gat r (us.drop (n+1))
 |0::_,[]=>[]
def bval (tup:Bool) (vs:List Value):Value:=match tup,vs with
 |false,[v]=>v
 |_,vs=> .tuple vs.toArray
def Enters (P:Program) (f:Nat):Prop:=∃fn,P.funcs[f]? =some fn/\(fn.name== "runtime.NumGoroutine")=false/\fn.body.isNone=false
def Valid (P:Program) (gl:List (Nat×List Value)) (f:Nat) (c:Ct):Prop:=Enters P f/\
 ∀(w:World) (M0 W0:Nat->Nat->Prop) (us:List Value) (x:PTy c.ps) (γ:Nat->CO),(∀b o,M0 b o->b<w.heap.size)->(∀b o,W0 b o->M0 b o)->Laid gl w M0->ArgsRel w M0 W0 γ 0 c.ps x us->MuDisj γ c.ps->
  ∀r,c.fn x=some r->Calls P f (gat c.ar us).toArray w fun e w'=>∃vs,e= .returned (bval c.tup vs)/\Fr W0 w w'/\
   ∃β:Nat->AO×CO,(∀j b o,fp (β j).1 (β j).2 b o->j∈ownR 0 c.rs/\w.heap.size<=b)/\(∀j j' b o,j≠j'->fp (β j).1 (β j).2 b o->fp (β j').1 (β j').2 b o->False)/\
    ResR w' (fun b o=>M0 b o\/∃j,fp (β j).1 (β j).2 b o) β us 0 c.rs r.1 vs/\
    MuBack w' (fun b o=>M0 b o\/∃j,fp (β j).1 (β j).2 b o) γ 0 c.ps r.2
end Go.Cm
