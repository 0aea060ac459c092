import Derived.Test.YtdpljomfkoojnaaGreatDoorCmA
namespace Go.Cm
inductive A0 where
 |bot
 |v (x:Value)
 |sl (fl:Bool) (k:Kd) (xs:List k.Ty)
 |pt (fl:Bool) (k:Kd) (x:k.Ty)
 |sv (fl:Bool) (k:Kd) (xs:List k.Ty) (n:Nat)
 |er (b:Bool)
 |pm (k:Kd) (x:k.Ty)
 |ref (l g:Nat) (vw:Option (Nat×Nat))
 |row (l g rg i:Nat) (vw:Option (Nat×Nat))
 |pa (l g i j:Nat)
 |pr (l g rg i e j:Nat)
 |pv (l g j:Nat)
inductive AV where
 |one (ag:Bool) (cs:List A0)
 |tup (xs:List (Bool×List A0))
inductive AO where
 |no
 |arr (mine fz:Bool) (k:Kd) (full:List k.Ty)
 |rows (mine:Bool) (k:Kd) (rg:Nat) (hdr:List (Nat×Nat)) (inn:List (List k.Ty))
 |vars (cs:List A0)
structure St where
 env:Nat->AV
 heap:Nat->Nat×AO
inductive Up where
 |put (s:Nat) (v:AV)
 |set (l g:Nat) (o:AO)
def St.up (S:St):Up->St
 | .put s v=> {S with env:=fun t=>bif Nat.beq t s then v else S.env t}
 | .set l g o=> {S with heap:=fun m=>bif Nat.beq m l then(g,o)else S.heap m}
def St.ups (S:St) (us:List Up):St:=us.foldl St.up S
inductive Cm (α:Type):Type 1 where
 |ret (a:α)
 |fail
 |slot (s:Nat) (k:AV->Cm α)
 |obj (l:Nat) (k:Nat×AO->Cm α)
 |test (c:Bool) (t e:Cm α)
 |opt {β:Type} (x:Option β) (k:β->Cm α)
namespace Cm
def bind {α β:Type} :Cm α->(α->Cm β)->Cm β
 |ret a,f=>f a
 |fail,_=>fail
 |slot s k,f=>slot s fun v=>(k v).bind f
 |obj l k,f=>obj l fun v=>(k v).bind f
 |test c t e,f=>test c (t.bind f) (e.bind f)
 |opt x k,f=>opt x fun v=>(k v).bind f
def ev {α:Type} (S:St):Cm α->Option α
 |ret a=>some a
 |fail=>none
 |slot s k=>(k (S.env s)).ev S
 |obj l k=>(k (S.heap l)).ev S
 |test c t e=>if c=true then t.ev S else e.ev S
 |opt x k=>x.bind fun y=>(k y).ev S
def run {α R:Type} (S:St):Cm α->(α->Option R)->Option R
 |ret a,κ=>κ a
 |fail,_=>none
 |slot s k,κ=>(k (S.env s)).run S κ
 |obj l k,κ=>(k (S.heap l)).run S κ
 |test c t e,κ=>if c=true then t.run S κ else e.run S κ
 |opt x k,κ=>x.bind fun y=>(k y).run S κ
def need (c:Bool) {α:Type} (k:Cm α):Cm α:=test c k fail
theorem run_eq {α R:Type} (S:St) (m:Cm α) (κ:α->Option R):m.run S κ=(m.ev S).bind κ:=by
 induction m with
 |ret a=>rfl
 |fail=>rfl
 |slot s k ih=>exact ih _
 |obj l k ih=>exact ih _
 |test c t e iht ihe=>simp only[run,ev];split<;>assumption
 |opt x k ih=>
  simp only[run,ev];cases x with
  |none=>rfl
  |some y=>exact ih y
theorem ev_bind {α β:Type} (S:St) (m:Cm α) (f:α->Cm β):(m.bind f).ev S=(m.ev S).bind fun a=>(f a).ev S:=by
 induction m with
 |ret a=>rfl
 |fail=>rfl
 |slot s k ih=>exact ih _
 |obj l k ih=>exact ih _
 |test c t e iht ihe=>simp only[bind,ev];split<;>assumption
 |opt x k ih=>
  simp only[bind,ev];cases x with
  |none=>rfl
  |some y=>exact ih y
end Cm
structure Td where
 k:Kd
 bytes:Nat
 ag:Bool
 el:Nat
 fs:List (Nat×Nat)
inductive PK where
 |ro (k:Kd)
 |pm (k:Kd)
 |bo (k:Kd)
 |fn (f:Nat)
 |mu (k:Kd)
 |mr (k:Kd)
abbrev PK.Ty:PK->Type
 | .ro k| .bo k| .pm k=>k.Ty
 | .fn _=>Unit
 | .mu k=>List k.Ty
 | .mr k=>List (List k.Ty×Nat)
abbrev PTy:List PK->Type
 | []=>Unit
 |p::ps=>p.Ty×PTy ps
abbrev MTy:List PK->Type
 | []=>Unit
 | .mu k::ps=>List k.Ty×MTy ps
 | .mr k::ps=>List (List k.Ty×Nat)×MTy ps
 |_::ps=>MTy ps
inductive RC where
 |ro (k:Kd)
 |own (k:Kd)
 |ov (k:Kd)
 |rows (k:Kd)
 |al (i:Nat) (k:Kd)
abbrev RC.Ty:RC->Type
 | .ro k=>k.Ty
 | .own k=>List k.Ty
 | .ov k=>List k.Ty×Nat
 | .rows k=>List (List k.Ty×Nat)×Nat
 | .al _ _=>Unit
def RC.sz:RC->Nat
 | .ro k=>k.sz
 | .own _=>1
 | .ov _=>1
 | .rows _=>1
 | .al _ _=>1
abbrev RsTy:List RC->Type
 | []=>Unit
 | [r]=>r.Ty
 |r::s::t=>r.Ty×RsTy (s::t)
abbrev RK:=Bool×List RC
abbrev RkTy:List RK->Type
 | []=>Unit
 | [r]=>RsTy r.2
 |r::s::t=>RsTy r.2×RkTy (s::t)
structure Ct where
 ps:List PK
 tup:Bool
 rs:List RK
 fn:PTy ps->Option (RkTy rs×MTy ps)
 ar:List Nat:=[]
structure Cx where
 P:Program
 td:List (Nat×Td)
 ct:List (Nat×Ct)
 rowsAt:List Nat
 shr:List (Nat×IntKind×(List Int->Nat))
def find {α:Type} (t:Nat):List (Nat×α)->Option α
 | []=>none
 |(u,d)::r=>bif Nat.beq u t then some d else find t r
def unpack (fl:Bool):(k:Kd)->k.Ty->List A0
 | .int ik,n=>[.v (.int ik n)]
 | .bool,b=>[.v (.bool b)]
 | .str,s=>[.v (.string s)]
 | .sl k,xs=>[.sl fl k xs]
 | .pt k,x=>[.pt fl k x]
 | .st f,x=>unpack fl f x
 | .pair a b,x=>unpack fl a x.1++unpack fl b x.2
 | .sv k,x=>[.sv fl k x.1 x.2]
 | .er,b=>[.er b]
structure Pk (α:Type) where
 x:α
 fr:List Nat
 bo:List Nat
 rest:List A0
def seen {α:Type} (xs:List α) (off len:Nat):List α:=(xs.drop off).take len
def look {α:Type} (xs:List α):Option (Nat×Nat)->List α
 |none=>xs
 |some (off,len)=>seen xs off len
def vlen {α:Type} (xs:List α):Option (Nat×Nat)->Nat
 |none=>xs.length
 |some (_,len)=>len
def voff:Option (Nat×Nat)->Nat
 |none=>0
 |some (off,_)=>off
def hd0 {α:Type} (m:List (List α×Nat)):List (Nat×Nat):=m.mapIdx fun i x=>(i,x.2)
def in0 {α:Type} (m:List (List α×Nat)):List (List α):=m.map fun x=>x.1
def ao0 (mine:Bool) (k:Kd) (m:List (List k.Ty×Nat)):AO:= .rows mine k 0 (hd0 m) (in0 m)
def nrm {α:Type} (hdr:List (Nat×Nat)) (inn:List (List α)):List (List α×Nat):=hdr.map fun p=>(inn.getD p.1 [],p.2)
def strict:Kd->Bool
 | .st (.st _)=>true
 |_=>false
def pack (bor:Bool):(k:Kd)->List A0->Cm (Pk k.Ty)
 | .int ik, .v (.int ik' n)::r=>if ik'=ik then .ret ⟨n,[],[],r⟩else .fail
 | .bool, .v (.bool b)::r=> .ret ⟨b,[],[],r⟩
 | .str, .v (.string s)::r=> .ret ⟨s,[],[],r⟩
 | .sl _, .v (.slice none 0 0)::r=> .ret ⟨[],[],[],r⟩
 | .sl k, .sl fl k' xs::r=>(match fgL k' k with
   |some f=>if(!fl||bor)=true then .ret ⟨f xs,[],[],r⟩else .fail
   |none=> .fail)
 | .sl k, .sv fl k' xs n::r=>(match fgL k' k with
   |some f=>if(!fl||bor)=true then .ret ⟨f (xs.take n),[],[],r⟩else .fail
   |none=> .fail)
 | .sl k, .ref l g vw::r=> .obj l fun o=>if o.1=g then(match o.2 with
   | .arr mine fz k' full=>(match fgL k' k with
     |some f=>
      (if fz=true then .ret ⟨f (look full vw),[],[],r⟩
      else if bor=true then .ret ⟨f (look full vw),[],[l],r⟩
      else if mine=true then .ret ⟨f (look full vw),[l],[],r⟩else .fail)
     |none=> .fail)
   | .rows _ k' _ hdr inn=>(match fgL (.sv k') k with
     |some f=>if bor=true then .ret ⟨f (look (nrm hdr inn) vw),[],[l],r⟩else .fail
     |none=> .fail)
   | .vars cs=>(match cs with
     | [c]=>if bor=true/\vw.isNone=true then(pack true k [c]).bind fun p=>(match p.rest with| []=> .ret ⟨[p.x],p.fr,l::p.bo,r⟩|_=> .fail)else .fail
     |_=> .fail)
   |_=> .fail)else .fail
 | .sl k, .row l g rg i vw::r=> .obj l fun o=>if o.1=g then(match o.2 with
   | .rows _ k' rg' _ inn=>(match fgL k' k with
     |some f=>if rg'=rg/\bor=true then .ret ⟨f (look (inn.getD i []) vw),[],[l],r⟩else .fail
     |none=> .fail)
   |_=> .fail)else .fail
 | .sv _, .v (.slice none 0 0)::r=> .ret ⟨([],0),[],[],r⟩
 | .sv k, .sv fl k' xs n::r=>if h:k'=k then(if(!fl||bor)=true then .ret ⟨castL (k':= .sv k') (k:= .sv k) (by rw[h]) (xs,n),[],[],r⟩else .fail)else .fail
 | .sv k, .ref l g vw::r=> .obj l fun o=>if o.1=g then(match o.2 with
   | .arr mine fz k' full=>if h:k'=k then
     (if fz=true then .ret ⟨castL (k':= .sv k') (k:= .sv k) (by rw[h]) (full.drop (voff vw),vlen full vw),[],[],r⟩
      else if bor=true then .ret ⟨castL (k':= .sv k') (k:= .sv k) (by rw[h]) (full.drop (voff vw),vlen full vw),[],[l],r⟩
      else if mine=true then .ret ⟨castL (k':= .sv k') (k:= .sv k) (by rw[h]) (full.drop (voff vw),vlen full vw),[l],[],r⟩else .fail)else .fail
   | .rows _ k' _ hdr inn=>if h:Kd.sv k'=k then(if bor=true then .ret ⟨castL (k':= .sv (.sv k')) (k:= .sv k) (by rw[h]) ((nrm hdr inn).drop (voff vw),vlen (nrm hdr inn) vw),[],[l],r⟩else .fail)else .fail
   |_=> .fail)else .fail
 | .er, .er b::r=> .ret ⟨b,[],[],r⟩
 | .er, .v .nilIface::r=> .ret ⟨false,[],[],r⟩
 | .pt k, .pt fl k' x::r=>if h:k'=k then(if(!fl||bor)=true then .ret ⟨castL (k':= .pt k') (k:= .pt k) (by rw[h]) x,[],[],r⟩else .fail)else .fail
 | .pt k, .pm k' x::r=>if h:k'=k then(if bor=true then .ret ⟨castL (k':= .pt k') (k:= .pt k) (by rw[h]) x,[],[],r⟩else .fail)else .fail
 | .pt k, .pv l g j::r=>if bor=true then .obj l fun o=>if o.1=g then(match o.2 with
   | .vars cs=>(pack true k (cs.drop j)).bind fun p=> .ret ⟨p.x,p.fr,l::p.bo,r⟩
   |_=> .fail)else .fail else .fail
 | .st f,cs=>pack bor f cs
 | .pair a b,cs=>(pack bor a cs).bind fun p=>(pack bor b p.rest).bind fun q=> .ret ⟨(p.x,q.x),p.fr++q.fr,p.bo++q.bo,q.rest⟩
 |_,_=> .fail
end Go.Cm
