import Derived.Test.YtdpljomfkoojnaaGreatDoorCmC
namespace Go.Cm
section
variable (cx:Cx)
def bot:AV:= .one false [.bot]
def skp:AV:= .tup []
def gstep (rf:Bool) (all:List Oper) (o:Oper):Cm (List Up):=match o.guard with
 |none=>step cx o
 |some (j,want)=>match(all[j]?).bind (·.dst)with
  |none=> .fail
  |some s=> .slot s fun av=>match av with
   | .one false [.v (.bool b)]=> .test b
     ((if want=true then step cx o else .ret (dput o skp)).bind fun us=> .ret (if rf then .put s (vl (.bool true))::us else us))
     ((if want=false then step cx o else .ret (dput o skp)).bind fun us=> .ret (if rf then .put s (vl (.bool false))::us else us))
   | .tup []=> .ret (if rf then .put s skp::dput o skp else dput o skp)
   |_=> .fail
def runOps {R:Type} (all:List Oper):List Oper->St->(St->Option R)->Option R
 | [],S,κ=>κ S
 |o::r,S,κ=>(gstep cx true all o).run S fun us=>runOps all r (S.ups us) κ
def Cm.runL {α R:Type} (S:St):Cm α->List Nat->(α->List Nat->Option R)->Option R
 | .ret a,lg,κ=>κ a lg
 | .fail,_,_=>none
 | .slot s k,lg,κ=>(k (S.env s)).runL S ((2*s)::lg) κ
 | .obj l k,lg,κ=>(k (S.heap l)).runL S ((2*l+1)::lg) κ
 | .test c t e,lg,κ=>if c=true then t.runL S lg κ else e.runL S lg κ
 | .opt x k,lg,κ=>x.bind fun y=>(k y).runL S lg κ
def Up.loc:Up->Nat
 | .put s _=>2*s
 | .set l _ _=>2*l+1
def meets (a b:List Nat):Bool:=a.any fun x=>b.any fun y=>Nat.beq x y
def ancs:List (List Nat)->List Oper->List (List Nat)
 |acc,[]=>acc
 |acc,o::r=>ancs (acc++[o.after.toList.flatMap fun e=>if Region.binds .any e=true then e.on::acc.getD e.on []else []]) r
def okWith (an:List (List Nat)) (rj wj:List Nat) (j:Nat):Nat->List (List Nat×List Nat)->Bool
 |_,[]=>true
 |i,(ri,wi)::r=>(!(meets wi rj||meets wi wj||meets ri wj)||(an.getD j []).any (fun x=>Nat.beq x i))&&okWith an rj wj j (i+1) r
def dropG (o:Oper) (us:List Up):List Up:=match o.guard with
 |none=>us
 |some _=>us.tail
def runDraw {R:Type} (all:List Oper) (an:List (List Nat)):List Oper->Nat->St->List (List Nat×List Nat)->(St->Option R)->Option R
 | [],_,S,_,κ=>κ S
 |o::r,j,S,lgs,κ=>(gstep cx true all o).runL S [] fun us rd=>
   if okWith an rd ((dropG o us).map Up.loc) j 0 lgs=true then runDraw all an r (j+1) (S.ups us) (lgs++[(rd,(dropG o us).map Up.loc)]) κ else none
inductive Sp where
 |dat (fl:Bool) (k:Kd)
 |pm (k:Kd)
 |own (l:Nat) (mine:Bool) (k:Kd)
 |var (l:Nat) (k:Kd)
 |varb (l:Nat) (k:Kd)
 |vow (l l':Nat) (k:Kd)
 |rows (l:Nat) (mine:Bool) (k:Kd)
 |rowz (s2 l:Nat) (mine:Bool) (k:Kd)
 |vrow (l l':Nat) (k:Kd)
 |fn (f:Nat)
abbrev Sp.Ty:Sp->Type
 | .dat _ k=>k.Ty
 | .pm k=>k.Ty
 | .own _ _ k=>List k.Ty
 | .var _ k=>k.Ty
 | .varb _ k=>k.Ty
 | .vow _ _ k=>List k.Ty
 | .rows _ _ k=>List (List k.Ty×Nat)
 | .rowz _ _ _ k=>List (List k.Ty×Nat)
 | .vrow _ _ k=>List (List k.Ty×Nat)
 | .fn _=>Unit
abbrev Hd:=List (Nat×Sp)
abbrev HTy:Hd->Type
 | []=>Unit
 |p::r=>p.2.Ty×HTy r
def hdEnv:(h:Hd)->HTy h->Nat->AV
 | [],_,_=>bot
 |(s, .dat fl k)::r,x,t=>bif Nat.beq t s then .one (isSt k) (unpack fl k x.1)else hdEnv r x.2 t
 |(s, .pm k)::r,x,t=>bif Nat.beq t s then .one false [.pm k x.1]else hdEnv r x.2 t
 |(s, .own l _ _)::r,x,t=>bif Nat.beq t s then .one false [.ref l 0 none]else hdEnv r x.2 t
 |(s, .var l _)::r,x,t=>bif Nat.beq t s then .one false [.pv l 0 0]else hdEnv r x.2 t
 |(s, .varb l _)::r,x,t=>bif Nat.beq t s then .one false [.pv l 0 0]else hdEnv r x.2 t
 |(s, .vow l _ _)::r,x,t=>bif Nat.beq t s then .one false [.pv l 0 0]else hdEnv r x.2 t
 |(s, .rows l _ _)::r,x,t=>bif Nat.beq t s then .one false [.ref l 0 none]else hdEnv r x.2 t
 |(s, .rowz s2 l _ _)::r,x,t=>bif Nat.beq t s then .one false [.ref l 0 none]else bif Nat.beq t s2 then .one false [.ref l 0 none]else hdEnv r x.2 t
 |(s, .vrow l _ _)::r,x,t=>bif Nat.beq t s then .one false [.pv l 0 0]else hdEnv r x.2 t
 |(s, .fn f)::r,x,t=>bif Nat.beq t s then vl (.func (.func f) #[] #[])else hdEnv r x.2 t
def hdHeap:(h:Hd)->HTy h->Nat->Nat×AO
 | [],_,_=>(0, .no)
 |(_, .own l mine k)::r,x,t=>bif Nat.beq t l then(0, .arr mine false k x.1)else hdHeap r x.2 t
 |(_, .var l k)::r,x,t=>bif Nat.beq t l then(0, .vars (unpack false k x.1))else hdHeap r x.2 t
 |(_, .varb l k)::r,x,t=>bif Nat.beq t l then(0, .vars (unpack true k x.1))else hdHeap r x.2 t
 |(_, .vow l l' k)::r,x,t=>bif Nat.beq t l then(0, .vars [.ref l' 0 none])else bif Nat.beq t l' then(0, .arr true false k x.1)else hdHeap r x.2 t
 |(_, .rows l mine k)::r,x,t=>bif Nat.beq t l then(0,ao0 mine k x.1)else hdHeap r x.2 t
 |(_, .rowz _ l mine k)::r,x,t=>bif Nat.beq t l then(0,ao0 mine k x.1)else hdHeap r x.2 t
 |(_, .vrow l l' k)::r,x,t=>bif Nat.beq t l then(0, .vars [.ref l' 0 none])else bif Nat.beq t l' then(0,ao0 true k x.1)else hdHeap r x.2 t
 |(_, .dat _ _)::r,x,t=>hdHeap r x.2 t
 |(_, .pm _)::r,x,t=>hdHeap r x.2 t
 |(_, .fn _)::r,x,t=>hdHeap r x.2 t
def hdSt (h:Hd) (x:HTy h):St:=⟨hdEnv h x,hdHeap h x⟩
structure Hp (α:Type) where
 x:α
 used:List Nat
 kept:List Nat
def wide {α:Type} (f:Option (Nat×Nat)->Nat) (n:Nat):Option (Nat×Nat)->Cm α->Cm α
 |none,m=>m
 |some p,m=> .test (decide (f (some p)=n)) m .fail
def hdPack:(h:Hd)->Cm (Hp (HTy h))
 | []=> .ret ⟨(),[],[]⟩
 |(s, .dat fl k)::r=> .slot s fun av=>match av with
   | .one ag cs=>if ag=isSt k then(pack fl k cs).bind fun p=>match p.rest,p.bo with
     | [],[]=>if(fl&& !p.fr.isEmpty)=true then .fail else(hdPack r).bind fun q=> .ret ⟨(p.x,q.x),p.fr++q.used,q.kept⟩
     |_,_=> .fail
     else .fail
   |_=> .fail
 |(s, .pm k)::r=> .slot s fun av=>match av with
   | .one false [.pm k' x]=>if h:k'=k then(hdPack r).bind fun q=> .ret ⟨(castL h x,q.x),q.used,q.kept⟩else .fail
   |_=> .fail
 |(s, .own l mine k)::r=> .slot s fun av=>match av with
   | .one false [.ref l' g vw]=>if l'=l then .obj l' fun o=>if o.1=g then(match o.2 with
     | .arr mine' false k' full=>if mine'=mine/\(mine=true\/vw.isNone=true)then if h:k'=k then(hdPack r).bind fun q=> .ret ⟨(look (castL (k':= .sl k') (k:= .sl k) (by rw[h]) full) vw,q.x),q.used,l::q.kept⟩else .fail else .fail
     |_=> .fail)else .fail else .fail
   | .one false [.v (.slice none 0 0)]=>if mine=true then(hdPack r).bind fun q=> .ret ⟨([],q.x),q.used,l::q.kept⟩else .fail
   |_=> .fail
 |(s, .var l k)::r=> .slot s fun av=>match av with
   | .one false [.pv l' g 0]=>if l'=l then .obj l' fun o=>if o.1=g then(match o.2 with
     | .vars cs=>(pack false k cs).bind fun p=>match p.rest with
       | []=>(hdPack r).bind fun q=> .ret ⟨(p.x,q.x),p.fr++q.used,l::q.kept⟩
       |_=> .fail
     |_=> .fail)else .fail else .fail
   |_=> .fail
 |(s, .varb l k)::r=> .slot s fun av=>match av with
   | .one false [.pv l' g 0]=>if l'=l then .obj l' fun o=>if o.1=g then(match o.2 with
     | .vars cs=>(pack true k cs).bind fun p=>match p.rest,p.bo,p.fr with
       | [],[],[]=>(hdPack r).bind fun q=> .ret ⟨(p.x,q.x),q.used,l::q.kept⟩
       |_,_,_=> .fail
     |_=> .fail)else .fail else .fail
   |_=> .fail
 |(s, .vow l l' k)::r=> .slot s fun av=>match av with
   | .one false [.pv lv g 0]=>if lv=l then .obj lv fun o=>if o.1=g then(match o.2 with
     | .vars [.ref lr gr vw]=>if lr=l'/\vw.isNone=true then .obj lr fun o'=>if o'.1=gr then(match o'.2 with
       | .arr true false k' full=>if h:k'=k then(hdPack r).bind fun q=> .ret ⟨(castL (k':= .sl k') (k:= .sl k) (by rw[h]) full,q.x),q.used,l::l'::q.kept⟩else .fail
       |_=> .fail)else .fail else .fail
     | .vars [.v (.slice none 0 0)]=>(hdPack r).bind fun q=> .ret ⟨([],q.x),q.used,l::l'::q.kept⟩
     |_=> .fail)else .fail else .fail
   |_=> .fail
 |(s, .rows l mine k)::r=> .slot s fun av=>match av with
   | .one false [.ref l' g vw]=>if l'=l then .obj l' fun o=>if o.1=g then(match o.2 with
     | .rows mine' k' _ hdr inn=>if mine'=mine/\voff vw=0 then if h:k'=k then wide (vlen hdr) hdr.length vw (.test (dup (hdr.map (·.1))) .fail ((hdPack r).bind fun q=> .ret ⟨(castL (k':= .sl (.sv k')) (k:= .sl (.sv k)) (by rw[h]) (nrm hdr inn),q.x),q.used,l::q.kept⟩))else .fail else .fail
     |_=> .fail)else .fail else .fail
   | .one false [.v (.slice none 0 0)]=>if mine=true then(hdPack r).bind fun q=> .ret ⟨([],q.x),q.used,l::q.kept⟩else .fail
   |_=> .fail
 |(s, .rowz s2 l mine k)::r=> .slot s fun av=>match av with
   | .one false [.ref l' g vw]=> .slot s2 fun av2=>match av2 with
     | .one false [.ref l2 g2 vw2]=>if l'=l/\(l2=l'/\g2=g)then .obj l' fun o=>if o.1=g then(match o.2 with
       | .rows mine' k' _ hdr inn=>if mine'=mine/\(voff vw=0/\voff vw2=0)then if h:k'=k then wide (vlen hdr) hdr.length vw (wide (vlen hdr) hdr.length vw2 (.test (dup (hdr.map (·.1))) .fail ((hdPack r).bind fun q=> .ret ⟨(castL (k':= .sl (.sv k')) (k:= .sl (.sv k)) (by rw[h]) (nrm hdr inn),q.x),q.used,l::q.kept⟩)))else .fail else .fail
       |_=> .fail)else .fail else .fail
     |_=> .fail
   |_=> .fail
 |(s, .vrow l l' k)::r=> .slot s fun av=>match av with
   | .one false [.pv lv g 0]=>if lv=l then .obj lv fun o=>if o.1=g then(match o.2 with
     | .vars [.ref lr gr vw]=>if lr=l'/\vw.isNone=true then .obj lr fun o'=>if o'.1=gr then(match o'.2 with
       | .rows true k' _ hdr inn=>if h:k'=k then .test (dup (hdr.map (·.1))) .fail ((hdPack r).bind fun q=> .ret ⟨(castL (k':= .sl (.sv k')) (k:= .sl (.sv k)) (by rw[h]) (nrm hdr inn),q.x),q.used,l::l'::q.kept⟩)else .fail
       |_=> .fail)else .fail else .fail
     | .vars [.v (.slice none 0 0)]=>(hdPack r).bind fun q=> .ret ⟨([],q.x),q.used,l::l'::q.kept⟩
     |_=> .fail)else .fail else .fail
   |_=> .fail
 |(s, .fn f)::r=> .slot s fun av=>match fnOf av with
   |some g=>if g=f then(hdPack r).bind fun q=> .ret ⟨((),q.x),q.used,q.kept⟩else .fail
   |none=> .fail
def head {R:Type} (h:Hd) (S:St) (κ:HTy h->Option R):Option R:=(hdPack h).run S fun p=>
 if(dup p.kept||clash p.used p.kept)=true then none else κ p.x
inductive Ex where
 |nrm
 |ext (id:Nat)
 |rtn
def loopN {R:Type} (h:Hd) (body:St->(Ex->St->Option R)->Option R) (κ:Ex->St->Option R) (n:Nat):HTy h->Option R:=
 Nat.rec (motive:=fun _=>HTy h->Option R) (fun _=>none) (fun _ ih x=>body (hdSt h x) fun e S=>match e with
   | .nrm=>head h S ih
   |e=>κ e S) n
def loopP {X R:Type} (body:X->(X->Option R)->Option R) (n:Nat):X->Option R:=
 Nat.rec (motive:=fun _=>X->Option R) (fun _=>none) (fun _ ih x=>body x ih) n
def okHd (h:Hd):Bool:=h.all fun p=>match p.2 with
 | .dat _ (.pair _ _)=>false
 |_=>true
def key:Code->Nat
 | .region id _ _=>id
 | .seq a _=>key a
 | .block _ b=>key b
 | .loop b=>key b
 | .scope b=>key b
 |_=>0
structure Fx where
 cx:Cx
 k:Nat
 ann:List (Nat×Hd)
variable (fx:Fx)
def annAt (k:Nat):Hd:=(find k fx.ann).getD []
def exec {R:Type} :Code->St->(Ex->St->Option R)->Option R
 | .skip,S,κ=>κ .nrm S
 | .region _ ops d,S,κ=>if d=true then runDraw fx.cx ops.toList (ancs [] ops.toList) ops.toList 0 S [] (κ .nrm)else runOps fx.cx ops.toList ops.toList S (κ .nrm)
 | .seq a b,S,κ=>exec a S fun e S'=>match e with
   | .nrm=>exec b S' κ
   |e=>κ e S'
 | .cond c a b,S,κ=>(opnd c).run S fun v=>match v with
   | .one false [.v (.bool t)]=>if t=true then exec a S κ else exec b S κ
   |_=>none
 | .block id b,S,κ=>exec b S fun e S'=>match e with
   | .ext i=>bif Nat.beq i id then κ .nrm S' else κ (.ext i) S'
   |e=>κ e S'
 | .loop b,S,κ=>if okHd (annAt fx (key b))=true then head (annAt fx (key b)) S (loopN (annAt fx (key b)) (fun S κ=>exec b S κ) κ fx.k)else none
 | .scope b,S,κ=>exec b S κ
 | .exit id,S,κ=>κ (.ext id) S
 | .ret,S,κ=>κ .rtn S
 |_,_,_=>none
def inEnv:(i:Nat)->(ps:List PK)->PTy ps->Nat->AV
 |_,[],_,_=>bot
 |i, .ro k::r,x,t=>bif Nat.beq t i then .one (isSt k) (unpack false k x.1)else inEnv (i+1) r x.2 t
 |i, .bo k::r,x,t=>bif Nat.beq t i then .one (isSt k) (unpack true k x.1)else inEnv (i+1) r x.2 t
 |i, .pm k::r,x,t=>bif Nat.beq t i then .one false [.pm k x.1]else inEnv (i+1) r x.2 t
 |i, .fn f::r,x,t=>bif Nat.beq t i then vl (.func (.func f) #[] #[])else inEnv (i+1) r x.2 t
 |i, .mu _::r,x,t=>bif Nat.beq t i then .one false [.ref (8*i) 0 none]else inEnv (i+1) r x.2 t
 |i, .mr _::r,x,t=>bif Nat.beq t i then .one false [.ref (8*i) 0 none]else inEnv (i+1) r x.2 t
def inHeap:(i:Nat)->(ps:List PK)->PTy ps->Nat->Nat×AO
 |_,[],_,_=>(0, .no)
 |i, .mu k::r,x,t=>bif Nat.beq t (8*i)then(0, .arr false false k x.1)else inHeap (i+1) r x.2 t
 |i, .mr k::r,x,t=>bif Nat.beq t (8*i)then(0,ao0 false k x.1)else inHeap (i+1) r x.2 t
 |i, .ro _::r,x,t=>inHeap (i+1) r x.2 t
 |i, .bo _::r,x,t=>inHeap (i+1) r x.2 t
 |i, .pm _::r,x,t=>inHeap (i+1) r x.2 t
 |i, .fn _::r,x,t=>inHeap (i+1) r x.2 t
def outs:(i:Nat)->(ps:List PK)->Cm (MTy ps)
 |_,[]=> .ret ()
 |i, .mu k::r=> .obj (8*i) fun o=>match o.2 with
   | .arr false false k' full=>if h:k'=k then(outs (i+1) r).bind fun m=> .ret (castL (k':= .sl k') (k:= .sl k) (by rw[h]) full,m)else .fail
   |_=> .fail
 |i, .mr k::r=> .obj (8*i) fun o=>match o.2 with
   | .rows false k' _ hdr inn=>if h:k'=k then .test (dup (hdr.map (·.1))) .fail ((outs (i+1) r).bind fun m=> .ret (castL (k':= .sl (.sv k')) (k:= .sl (.sv k)) (by rw[h]) (nrm hdr inn),m))else .fail
   |_=> .fail
 |i, .ro _::r=>outs (i+1) r
 |i, .bo _::r=>outs (i+1) r
 |i, .pm _::r=>outs (i+1) r
 |i, .fn _::r=>outs (i+1) r
structure Fi (α:Type) where
 x:α
 own:List Nat
 used:List Nat
 rest:List A0
def finC:(r:RC)->List A0->Cm (Fi r.Ty)
 | .ro k,cs=>(pack false k cs).bind fun p=> .ret ⟨p.x,[],p.fr++p.bo,p.rest⟩
 | .own _, .v (.slice none 0 0)::r=> .ret ⟨[],[],[],r⟩
 | .own k, .ref l g none::r=> .obj l fun o=>if o.1=g then(match o.2 with
   | .arr true false k' full=>if h:k'=k then .ret ⟨castL (k':= .sl k') (k:= .sl k) (by rw[h]) full,[l],[],r⟩else .fail
   |_=> .fail)else .fail
 | .ov _, .v (.slice none 0 0)::r=> .ret ⟨([],0),[],[],r⟩
 | .ov k, .ref l g vw::r=> .obj l fun o=>if o.1=g then(match o.2 with
   | .arr true false k' full=>if h:k'=k then(if voff vw=0 then .ret ⟨castL (k':= .sv k') (k:= .sv k) (by rw[h]) (full,vlen full vw),[l],[],r⟩else .fail)else .fail
   |_=> .fail)else .fail
 | .rows _, .v (.slice none 0 0)::r=> .ret ⟨([],0),[],[],r⟩
 | .rows k, .ref l g vw::r=> .obj l fun o=>if o.1=g then(match o.2 with
   | .rows true k' _ hdr inn=>if h:k'=k then(if voff vw=0 then .test (dup (hdr.map (·.1))) .fail (.ret ⟨castL (k':= .sv (.sv k')) (k:= .sv (.sv k)) (by rw[h]) (nrm hdr inn,vlen hdr vw),[l],[],r⟩)else .fail)else .fail
   |_=> .fail)else .fail
 | .al i k, .ref l g none::r=>if l=8*i then .obj l fun o=>if o.1=g then(match o.2 with
   | .arr false false k' _=>if k'=k then .ret ⟨(),[],[],r⟩else .fail
   |_=> .fail)else .fail else .fail
 |_,_=> .fail
def finS:(rs:List RC)->List A0->Cm (Fi (RsTy rs))
 | [],cs=> .ret ⟨(),[],[],cs⟩
 | [r],cs=>finC r cs
 |r::s::t,cs=>(finC r cs).bind fun p=>(finS (s::t) p.rest).bind fun q=> .ret ⟨(p.x,q.x),p.own++q.own,p.used++q.used,q.rest⟩
def finR:(rs:List RK)->List AV->Cm (Fi (RkTy rs))
 | [],[]=> .ret ⟨(),[],[],[]⟩
 | [r],[.one ag cs]=>if ag=r.1 then(finS r.2 cs).bind fun p=>match p.rest with| []=> .ret p|_=> .fail else .fail
 |r::s::t, .one ag cs::vs=>if ag=r.1 then(finS r.2 cs).bind fun p=>match p.rest with
   | []=>(finR (s::t) vs).bind fun q=> .ret ⟨(p.x,q.x),p.own++q.own,p.used++q.used,[]⟩
   |_=> .fail
   else .fail
 |_,_=> .fail
def resV:List ResultVar->Cm (List AV)
 | []=> .ret []
 | .tmp t::r=> .slot t fun v=>(resV r).bind fun vs=> .ret (v::vs)
 | .cell a t::r=> .slot a fun v=>sg v fun a=>tdOf cx t fun d=>cellsAt a fun cs=>if(cs.take d.k.sz).length=d.k.sz then(resV r).bind fun vs=> .ret (.one d.ag (cs.take d.k.sz)::vs)else .fail
def finish (rv:List ResultVar) (ps:List PK) (rs:List RK):Cm (RkTy rs×MTy ps):=(resV cx rv).bind fun vs=>(finR rs vs).bind fun p=>
 if(dup p.own||clash p.used p.own)=true then .fail else(outs 0 ps).bind fun m=> .ret (p.x,m)
def a0:AV->A0
 | .one false [c]=>c
 |_=> .bot
def cellsE (e:Nat->AV):Nat->Nat->List A0
 |_,0=>[]
 |s,n+1=>a0 (e s)::cellsE e (s+1) n
def gEnv (e:Nat->AV):List Nat->Nat->Nat->Nat->AV
 | [],_,_,_=>bot
 |0::r,i,s,t=>bif Nat.beq t i then e s else gEnv e r (i+1) (s+1) t
 |(n+1)::r,i,s,t=>bif Nat.beq t i then .one true (cellsE e s (n+1))else gEnv e r (i+1) (s+(n+1)) t
def grpE (ar:List Nat) (e:Nat->AV):Nat->AV:=match ar with
 | []=>e
 |n::r=>gEnv e (n::r) 0 0
def execF (rv:List ResultVar) (c:Code) (ps:List PK) (rs:List RK) (ar:List Nat) (x:PTy ps):Option (RkTy rs×MTy ps):=
 exec fx c ⟨grpE ar (inEnv 0 ps x),inHeap 0 ps x⟩ fun e S=>match e with
  | .ext _=>none
  |_=>(finish fx.cx rv ps rs).run S some
end
end Go.Cm
